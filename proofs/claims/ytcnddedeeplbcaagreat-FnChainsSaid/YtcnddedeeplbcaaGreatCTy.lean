/- Facts on the types of the translation, each closed. Written by wip/tools/gen.py. -/
import Derived.Test.YtcnddedeeplbcaaGreatChecked
import Derived.Test.YtcnddedeeplbcaaGreatAbsCode
import Derived.KernelRfl
namespace Go.Proofs.YtcnddedeeplbcaaGreat.Ty
open Go.Proofs.Tryz Go.Abs Go.Proofs
@[go_sem] theorem t_3:prog.cellsOf 3=1 /\ tl prog 3=some (false,1) /\ te prog 3=none /\ tz prog 3=some [.int .i64 0] /\ tflat prog 3=true /\ tbool prog 3=false /\ ptrT prog 3=false /\ tkind prog 3=some .i64:=by and_intros <;> kernel_rfl
@[go_sem] theorem t_4:prog.cellsOf 4=1 /\ tl prog 4=some (false,1) /\ te prog 4=none /\ tz prog 4=some [.bool false] /\ tflat prog 4=true /\ tbool prog 4=true /\ ptrT prog 4=false:=by and_intros <;> kernel_rfl
@[go_sem] theorem tc_5:prog.cellsOf 5=1:=by kernel_rfl
@[go_sem] theorem t_5:tl prog 5=some (false,1) /\ te prog 5=none /\ tz prog 5=some [.int .u8 0] /\ tflat prog 5=true /\ tbool prog 5=false /\ ptrT prog 5=false /\ tkind prog 5=some .u8:=by and_intros <;> kernel_rfl
@[go_sem] theorem t_9:prog.cellsOf 9=1 /\ tl prog 9=some (false,1) /\ te prog 9=none /\ tz prog 9=some [.str .empty] /\ tflat prog 9=true /\ tbool prog 9=false /\ ptrT prog 9=false /\ tstr prog 9=true:=by and_intros <;> kernel_rfl
@[go_sem] theorem t_22:prog.cellsOf 22=1 /\ tl prog 22=some (false,1) /\ te prog 22=some (5,1,1) /\ tz prog 22=some [.sl 1 []] /\ tflat prog 22=false /\ tbool prog 22=false /\ ptrT prog 22=false:=by and_intros <;> kernel_rfl
@[go_sem] theorem t_24:prog.cellsOf 24=1 /\ tl prog 24=some (false,1) /\ te prog 24=some (3,1,8) /\ tz prog 24=some [.sl 1 []] /\ tflat prog 24=false /\ tbool prog 24=false /\ ptrT prog 24=false:=by and_intros <;> kernel_rfl
@[go_sem] theorem t_25:prog.cellsOf 25=2 /\ tl prog 25=some (true,2) /\ te prog 25=none /\ tp prog 25=some [(0,1),(1,1)] /\ tf prog 25 0=some (0,false,1) /\ tf prog 25 1=some (1,false,1) /\ tz prog 25=some [.sl 1 [],.sl 1 []] /\ tflat prog 25=false /\ tbool prog 25=false /\ ptrT prog 25=false:=by and_intros <;> kernel_rfl
@[go_sem] theorem t_26:prog.cellsOf 26=2 /\ tl prog 26=some (true,2) /\ te prog 26=none /\ tp prog 26=some [(0,1),(1,1)] /\ tf prog 26 0=some (0,false,1) /\ tf prog 26 1=some (1,false,1) /\ tz prog 26=some [.sl 1 [],.sl 1 []] /\ tflat prog 26=false /\ tbool prog 26=false /\ ptrT prog 26=false:=by and_intros <;> kernel_rfl
@[go_sem] theorem t_27:prog.cellsOf 27=1 /\ tl prog 27=some (false,1) /\ te prog 27=some (116,1,24) /\ tz prog 27=some [.sl 1 []] /\ tflat prog 27=false /\ tbool prog 27=false /\ ptrT prog 27=false:=by and_intros <;> kernel_rfl
@[go_sem] theorem t_28:prog.cellsOf 28=2 /\ tl prog 28=some (true,2) /\ te prog 28=none /\ tp prog 28=some [(0,1),(1,1)] /\ tf prog 28 0=some (0,false,1) /\ tf prog 28 1=some (1,false,1) /\ tz prog 28=some [.sl 1 [],.sl 1 []] /\ tflat prog 28=false /\ tbool prog 28=false /\ ptrT prog 28=false:=by and_intros <;> kernel_rfl
@[go_sem] theorem t_29:prog.cellsOf 29=2 /\ tl prog 29=some (true,2) /\ te prog 29=none /\ tp prog 29=some [(0,1),(1,1)] /\ tf prog 29 0=some (0,false,1) /\ tf prog 29 1=some (1,false,1) /\ tz prog 29=some [.sl 1 [],.sl 1 []] /\ tflat prog 29=false /\ tbool prog 29=false /\ ptrT prog 29=false:=by and_intros <;> kernel_rfl
@[go_sem] theorem t_30:prog.cellsOf 30=4 /\ tl prog 30=some (true,4) /\ te prog 30=none /\ tp prog 30=some [(0,2),(2,2)] /\ tf prog 30 0=some (0,true,2) /\ tf prog 30 1=some (2,true,2) /\ tz prog 30=some [.sl 1 [],.sl 1 [],.sl 1 [],.sl 1 []] /\ tflat prog 30=false /\ tbool prog 30=false /\ ptrT prog 30=false:=by and_intros <;> kernel_rfl
@[go_sem] theorem t_31:prog.cellsOf 31=4 /\ tl prog 31=some (true,4) /\ te prog 31=none /\ tp prog 31=some [(0,2),(2,2)] /\ tf prog 31 0=some (0,true,2) /\ tf prog 31 1=some (2,true,2) /\ tz prog 31=some [.sl 1 [],.sl 1 [],.sl 1 [],.sl 1 []] /\ tflat prog 31=false /\ tbool prog 31=false /\ ptrT prog 31=false:=by and_intros <;> kernel_rfl
@[go_sem] theorem t_32:prog.cellsOf 32=3 /\ tl prog 32=some (true,3) /\ te prog 32=none /\ tp prog 32=some [(0,1),(1,1),(2,1)] /\ tf prog 32 0=some (0,false,1) /\ tf prog 32 1=some (1,false,1) /\ tf prog 32 2=some (2,false,1) /\ tz prog 32=some [.int .i64 0,.int .i64 0,.int .i64 0] /\ tflat prog 32=true /\ tbool prog 32=false /\ ptrT prog 32=false:=by and_intros <;> kernel_rfl
@[go_sem] theorem t_33:prog.cellsOf 33=3 /\ tl prog 33=some (true,3) /\ te prog 33=none /\ tp prog 33=some [(0,1),(1,1),(2,1)] /\ tf prog 33 0=some (0,false,1) /\ tf prog 33 1=some (1,false,1) /\ tf prog 33 2=some (2,false,1) /\ teq prog 33=some [0,0,0] /\ tz prog 33=some [.int .i64 0,.int .i64 0,.int .i64 0] /\ tflat prog 33=true /\ tbool prog 33=false /\ ptrT prog 33=false:=by and_intros <;> kernel_rfl
@[go_sem] theorem t_48:prog.cellsOf 48=1 /\ tl prog 48=some (false,1) /\ te prog 48=some (51,2,16) /\ tz prog 48=some [.sl 2 []] /\ tflat prog 48=false /\ tbool prog 48=false /\ ptrT prog 48=false:=by and_intros <;> kernel_rfl
@[go_sem] theorem t_50:prog.cellsOf 50=2 /\ tl prog 50=some (true,2) /\ te prog 50=none /\ tp prog 50=some [(0,1),(1,1)] /\ tf prog 50 0=some (0,false,1) /\ tf prog 50 1=some (1,false,1) /\ tz prog 50=some [.int .i64 0,.int .i64 0] /\ tflat prog 50=true /\ tbool prog 50=false /\ ptrT prog 50=false:=by and_intros <;> kernel_rfl
@[go_sem] theorem t_51:prog.cellsOf 51=2 /\ tl prog 51=some (true,2) /\ te prog 51=none /\ tp prog 51=some [(0,1),(1,1)] /\ tf prog 51 0=some (0,false,1) /\ tf prog 51 1=some (1,false,1) /\ teq prog 51=some [0,0] /\ tz prog 51=some [.int .i64 0,.int .i64 0] /\ tflat prog 51=true /\ tbool prog 51=false /\ ptrT prog 51=false:=by and_intros <;> kernel_rfl
@[go_sem] theorem t_52:prog.cellsOf 52=3 /\ tl prog 52=some (true,3) /\ te prog 52=none /\ tp prog 52=some [(0,1),(1,1),(2,1)] /\ tf prog 52 0=some (0,false,1) /\ tf prog 52 1=some (1,false,1) /\ tf prog 52 2=some (2,false,1) /\ tz prog 52=some [.int .i64 0,.int .i64 0,.int .i64 0] /\ tflat prog 52=true /\ tbool prog 52=false /\ ptrT prog 52=false:=by and_intros <;> kernel_rfl
@[go_sem] theorem t_53:prog.cellsOf 53=3 /\ tl prog 53=some (true,3) /\ te prog 53=none /\ tp prog 53=some [(0,1),(1,1),(2,1)] /\ tf prog 53 0=some (0,false,1) /\ tf prog 53 1=some (1,false,1) /\ tf prog 53 2=some (2,false,1) /\ teq prog 53=some [0,0,0] /\ tz prog 53=some [.int .i64 0,.int .i64 0,.int .i64 0] /\ tflat prog 53=true /\ tbool prog 53=false /\ ptrT prog 53=false:=by and_intros <;> kernel_rfl
@[go_sem] theorem t_97:prog.cellsOf 97=1 /\ tl prog 97=some (false,1) /\ te prog 97=none /\ tbool prog 97=false /\ ptrT prog 97=true:=by and_intros <;> kernel_rfl
@[go_sem] theorem t_115:prog.cellsOf 115=1 /\ tl prog 115=some (true,1) /\ te prog 115=none /\ tp prog 115=some [(0,1)] /\ tf prog 115 0=some (0,false,1) /\ tz prog 115=some [.sl 1 []] /\ tflat prog 115=false /\ tbool prog 115=false /\ ptrT prog 115=false:=by and_intros <;> kernel_rfl
@[go_sem] theorem t_116:prog.cellsOf 116=1 /\ tl prog 116=some (true,1) /\ te prog 116=none /\ tp prog 116=some [(0,1)] /\ tf prog 116 0=some (0,false,1) /\ tz prog 116=some [.sl 1 []] /\ tflat prog 116=false /\ tbool prog 116=false /\ ptrT prog 116=false:=by and_intros <;> kernel_rfl
@[go_sem] theorem t_149:prog.cellsOf 149=3 /\ tl prog 149=some (true,3) /\ te prog 149=none /\ tp prog 149=some [(0,1),(1,1),(2,1)] /\ tf prog 149 0=some (0,false,1) /\ tf prog 149 1=some (1,false,1) /\ tf prog 149 2=some (2,false,1) /\ tz prog 149=some [.sl 1 [],.int .i64 0,.int .i64 0] /\ tflat prog 149=false /\ tbool prog 149=false /\ ptrT prog 149=false:=by and_intros <;> kernel_rfl
@[go_sem] theorem t_150:prog.cellsOf 150=3 /\ tl prog 150=some (true,3) /\ te prog 150=none /\ tp prog 150=some [(0,1),(1,1),(2,1)] /\ tf prog 150 0=some (0,false,1) /\ tf prog 150 1=some (1,false,1) /\ tf prog 150 2=some (2,false,1) /\ tz prog 150=some [.sl 1 [],.int .i64 0,.int .i64 0] /\ tflat prog 150=false /\ tbool prog 150=false /\ ptrT prog 150=false:=by and_intros <;> kernel_rfl
@[go_sem] theorem t_159:prog.cellsOf 159=1 /\ tl prog 159=some (false,1) /\ te prog 159=none /\ tz prog 159=some [.int .u64 0] /\ tflat prog 159=true /\ tbool prog 159=false /\ ptrT prog 159=false /\ tkind prog 159=some .u64:=by and_intros <;> kernel_rfl
@[go_sem] theorem t_219:prog.cellsOf 219=24 /\ tl prog 219=some (true,24) /\ te prog 219=none /\ ta prog 219=some (24,4,1) /\ tp prog 219=some [(0,1),(1,1),(2,1),(3,1),(4,1),(5,1),(6,1),(7,1),(8,1),(9,1),(10,1),(11,1),(12,1),(13,1),(14,1),(15,1),(16,1),(17,1),(18,1),(19,1),(20,1),(21,1),(22,1),(23,1)] /\ tz prog 219=some [.bool false,.bool false,.bool false,.bool false,.bool false,.bool false,.bool false,.bool false,.bool false,.bool false,.bool false,.bool false,.bool false,.bool false,.bool false,.bool false,.bool false,.bool false,.bool false,.bool false,.bool false,.bool false,.bool false,.bool false] /\ tflat prog 219=true /\ tbool prog 219=false /\ ptrT prog 219=false:=by and_intros <;> kernel_rfl
@[go_sem] theorem t_279:prog.cellsOf 279=1 /\ tl prog 279=some (false,1) /\ te prog 279=some (27,1,24) /\ tz prog 279=some [.sl 1 []] /\ tflat prog 279=false /\ tbool prog 279=false /\ ptrT prog 279=false:=by and_intros <;> kernel_rfl
@[go_sem] theorem t_281:prog.cellsOf 281=3 /\ tl prog 281=some (true,3) /\ te prog 281=none /\ ta prog 281=some (3,3,1) /\ tp prog 281=some [(0,1),(1,1),(2,1)] /\ tz prog 281=some [.int .i64 0,.int .i64 0,.int .i64 0] /\ tflat prog 281=true /\ tbool prog 281=false /\ ptrT prog 281=false:=by and_intros <;> kernel_rfl
theorem e2:enters prog 2=true:=by kernel_rfl
theorem e3:enters prog 3=true:=by kernel_rfl
theorem e4:enters prog 4=true:=by kernel_rfl
theorem e5:enters prog 5=true:=by kernel_rfl
theorem e7:enters prog 7=true:=by kernel_rfl
theorem e10:enters prog 10=true:=by kernel_rfl
theorem e11:enters prog 11=true:=by kernel_rfl
theorem e13:enters prog 13=true:=by kernel_rfl
theorem e14:enters prog 14=true:=by kernel_rfl
theorem e15:enters prog 15=true:=by kernel_rfl
theorem e19:enters prog 19=true:=by kernel_rfl
theorem e20:enters prog 20=true:=by kernel_rfl
theorem e21:enters prog 21=true:=by kernel_rfl
theorem e22:enters prog 22=true:=by kernel_rfl
theorem e23:enters prog 23=true:=by kernel_rfl
theorem e24:enters prog 24=true:=by kernel_rfl
theorem e25:enters prog 25=true:=by kernel_rfl
theorem e26:enters prog 26=true:=by kernel_rfl
theorem e27:enters prog 27=true:=by kernel_rfl
theorem e35:enters prog 35=true:=by kernel_rfl
theorem e38:enters prog 38=true:=by kernel_rfl
theorem e39:enters prog 39=true:=by kernel_rfl
theorem e40:enters prog 40=true:=by kernel_rfl
theorem e41:enters prog 41=true:=by kernel_rfl
theorem e42:enters prog 42=true:=by kernel_rfl
theorem e43:enters prog 43=true:=by kernel_rfl
theorem e44:enters prog 44=true:=by kernel_rfl
theorem e45:enters prog 45=true:=by kernel_rfl
theorem e46:enters prog 46=true:=by kernel_rfl
theorem e47:enters prog 47=true:=by kernel_rfl
theorem e48:enters prog 48=true:=by kernel_rfl
theorem e49:enters prog 49=true:=by kernel_rfl
theorem e50:enters prog 50=true:=by kernel_rfl
theorem e52:enters prog 52=true:=by kernel_rfl
theorem e53:enters prog 53=true:=by kernel_rfl
theorem e54:enters prog 54=true:=by kernel_rfl
theorem e55:enters prog 55=true:=by kernel_rfl
theorem e56:enters prog 56=true:=by kernel_rfl
theorem e57:enters prog 57=true:=by kernel_rfl
theorem e58:enters prog 58=true:=by kernel_rfl
theorem e59:enters prog 59=true:=by kernel_rfl
theorem e60:enters prog 60=true:=by kernel_rfl
theorem e61:enters prog 61=true:=by kernel_rfl
theorem e62:enters prog 62=true:=by kernel_rfl
theorem e63:enters prog 63=true:=by kernel_rfl
theorem e64:enters prog 64=true:=by kernel_rfl
theorem e65:enters prog 65=true:=by kernel_rfl
theorem e66:enters prog 66=true:=by kernel_rfl
theorem e67:enters prog 67=true:=by kernel_rfl
theorem e100:enters prog 100=true:=by kernel_rfl
theorem e101:enters prog 101=true:=by kernel_rfl
theorem e102:enters prog 102=true:=by kernel_rfl
theorem e103:enters prog 103=true:=by kernel_rfl
theorem e104:enters prog 104=true:=by kernel_rfl
theorem e105:enters prog 105=true:=by kernel_rfl
theorem e106:enters prog 106=true:=by kernel_rfl
theorem e107:enters prog 107=true:=by kernel_rfl
theorem e108:enters prog 108=true:=by kernel_rfl
theorem e109:enters prog 109=true:=by kernel_rfl
theorem e110:enters prog 110=true:=by kernel_rfl
theorem e111:enters prog 111=true:=by kernel_rfl
theorem e112:enters prog 112=true:=by kernel_rfl
theorem e113:enters prog 113=true:=by kernel_rfl
theorem e114:enters prog 114=true:=by kernel_rfl
theorem e115:enters prog 115=true:=by kernel_rfl
theorem e116:enters prog 116=true:=by kernel_rfl
theorem e117:enters prog 117=true:=by kernel_rfl
theorem e118:enters prog 118=true:=by kernel_rfl
theorem e119:enters prog 119=true:=by kernel_rfl
theorem e120:enters prog 120=true:=by kernel_rfl
theorem e121:enters prog 121=true:=by kernel_rfl
theorem e122:enters prog 122=true:=by kernel_rfl
theorem e123:enters prog 123=true:=by kernel_rfl
theorem e124:enters prog 124=true:=by kernel_rfl
theorem e125:enters prog 125=true:=by kernel_rfl
theorem e126:enters prog 126=true:=by kernel_rfl
theorem e127:enters prog 127=true:=by kernel_rfl
theorem e128:enters prog 128=true:=by kernel_rfl
theorem e129:enters prog 129=true:=by kernel_rfl
theorem e130:enters prog 130=true:=by kernel_rfl
theorem e131:enters prog 131=true:=by kernel_rfl
theorem e132:enters prog 132=true:=by kernel_rfl
theorem e133:enters prog 133=true:=by kernel_rfl
theorem e134:enters prog 134=true:=by kernel_rfl
theorem e135:enters prog 135=true:=by kernel_rfl
theorem e136:enters prog 136=true:=by kernel_rfl
theorem e137:enters prog 137=true:=by kernel_rfl
theorem e138:enters prog 138=true:=by kernel_rfl
theorem e139:enters prog 139=true:=by kernel_rfl
theorem e145:enters prog 145=true:=by kernel_rfl
theorem e157:enters prog 157=true:=by kernel_rfl
theorem e163:enters prog 163=true:=by kernel_rfl
theorem e186:enters prog 186=true:=by kernel_rfl
theorem e187:enters prog 187=true:=by kernel_rfl
theorem e188:enters prog 188=true:=by kernel_rfl
theorem e189:enters prog 189=true:=by kernel_rfl
theorem e190:enters prog 190=true:=by kernel_rfl
theorem e191:enters prog 191=true:=by kernel_rfl
theorem e192:enters prog 192=true:=by kernel_rfl
theorem e193:enters prog 193=true:=by kernel_rfl
theorem e194:enters prog 194=true:=by kernel_rfl
theorem e195:enters prog 195=true:=by kernel_rfl
theorem e196:enters prog 196=true:=by kernel_rfl
theorem e197:enters prog 197=true:=by kernel_rfl
theorem e198:enters prog 198=true:=by kernel_rfl
theorem e199:enters prog 199=true:=by kernel_rfl
theorem e200:enters prog 200=true:=by kernel_rfl
theorem e201:enters prog 201=true:=by kernel_rfl
theorem e202:enters prog 202=true:=by kernel_rfl
theorem e203:enters prog 203=true:=by kernel_rfl
theorem e204:enters prog 204=true:=by kernel_rfl
theorem e205:enters prog 205=true:=by kernel_rfl
theorem e206:enters prog 206=true:=by kernel_rfl
theorem e207:enters prog 207=true:=by kernel_rfl
theorem e208:enters prog 208=true:=by kernel_rfl
theorem e209:enters prog 209=true:=by kernel_rfl
theorem e210:enters prog 210=true:=by kernel_rfl
theorem e211:enters prog 211=true:=by kernel_rfl
theorem e212:enters prog 212=true:=by kernel_rfl
theorem e213:enters prog 213=true:=by kernel_rfl
theorem e247:enters prog 247=true:=by kernel_rfl
theorem e267:enters prog 267=true:=by kernel_rfl
theorem e268:enters prog 268=true:=by kernel_rfl
theorem e269:enters prog 269=true:=by kernel_rfl
theorem e270:enters prog 270=true:=by kernel_rfl
theorem e271:enters prog 271=true:=by kernel_rfl
theorem e272:enters prog 272=true:=by kernel_rfl
theorem e273:enters prog 273=true:=by kernel_rfl
theorem e274:enters prog 274=true:=by kernel_rfl
theorem e275:enters prog 275=true:=by kernel_rfl
theorem e276:enters prog 276=true:=by kernel_rfl
theorem e277:enters prog 277=true:=by kernel_rfl
theorem e278:enters prog 278=true:=by kernel_rfl
theorem e279:enters prog 279=true:=by kernel_rfl
theorem e280:enters prog 280=true:=by kernel_rfl
theorem e281:enters prog 281=true:=by kernel_rfl
theorem e282:enters prog 282=true:=by kernel_rfl
theorem e283:enters prog 283=true:=by kernel_rfl
theorem e284:enters prog 284=true:=by kernel_rfl
theorem e285:enters prog 285=true:=by kernel_rfl
theorem e305:enters prog 305=true:=by kernel_rfl
theorem e306:enters prog 306=true:=by kernel_rfl
theorem e307:enters prog 307=true:=by kernel_rfl
theorem e308:enters prog 308=true:=by kernel_rfl
theorem e309:enters prog 309=true:=by kernel_rfl
theorem e310:enters prog 310=true:=by kernel_rfl
theorem e311:enters prog 311=true:=by kernel_rfl
theorem e312:enters prog 312=true:=by kernel_rfl
theorem e319:enters prog 319=true:=by kernel_rfl
theorem e320:enters prog 320=true:=by kernel_rfl
theorem mixed:prog.follows .mixedOrders=true:=by kernel_rfl
end Go.Proofs.YtcnddedeeplbcaaGreat.Ty
