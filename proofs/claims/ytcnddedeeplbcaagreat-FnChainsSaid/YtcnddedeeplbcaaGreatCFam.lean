/- Contracts: Fam. -/
import Derived.Test.YtcnddedeeplbcaaGreatRows
import Derived.Test.YtcnddedeeplbcaaGreatCTy
import Derived.Test.YtcnddedeeplbcaaGreatAbsTac
import Derived.Test.YtcnddedeeplbcaaGreatAbsData
import Derived.Test.YtcnddedeeplbcaaGreatCBase
import Derived.WalkKit
import Derived.ProofKit
import Derived.OpenShut
namespace Go.Proofs.YtcnddedeeplbcaaGreat.Mod
open Go.Proofs.Tryz Go.Abs Go.Proofs.YtcnddedeeplbcaaGreat.Ty Go.ChangeShapes Go.WideShapes Go.ChangeAt Go.RowKit
set_option linter.unusedSimpArgs false
set_option linter.unusedVariables false
set_option maxHeartbeats 8000000
set_option maxRecDepth 100000
structure KV where
 Key:Int
 Val:Int
 deriving DecidableEq
def encKV (x:KV):List D:=[.int .i64 x.Key,.int .i64 x.Val]
def KV.wf (x:KV):Prop:=(Lit.int .i64 x.Key).wf=true /\ (Lit.int .i64 x.Val).wf=true /\ True
theorem KV.eq_iff (x y:KV):x=y ↔ x.Key=y.Key /\ x.Val=y.Val:=by cases x;cases y;simp
structure Bkt where
 Head:Int
 Ver:Int
 Lock:Int
 deriving DecidableEq
def encBkt (x:Bkt):List D:=[.int .i64 x.Head,.int .i64 x.Ver,.int .i64 x.Lock]
def Bkt.wf (x:Bkt):Prop:=(Lit.int .i64 x.Head).wf=true /\ (Lit.int .i64 x.Ver).wf=true /\ (Lit.int .i64 x.Lock).wf=true /\ True
theorem Bkt.eq_iff (x y:Bkt):x=y ↔ x.Head=y.Head /\ x.Ver=y.Ver /\ x.Lock=y.Lock:=by cases x;cases y;simp
structure Node where
 Key:Int
 Val:Int
 Next:Int
 deriving DecidableEq
def encNode (x:Node):List D:=[.int .i64 x.Key,.int .i64 x.Val,.int .i64 x.Next]
def Node.wf (x:Node):Prop:=(Lit.int .i64 x.Key).wf=true /\ (Lit.int .i64 x.Val).wf=true /\ (Lit.int .i64 x.Next).wf=true /\ True
theorem Node.eq_iff (x y:Node):x=y ↔ x.Key=y.Key /\ x.Val=y.Val /\ x.Next=y.Next:=by cases x;cases y;simp
end Go.Proofs.YtcnddedeeplbcaaGreat.Mod
