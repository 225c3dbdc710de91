/- Contracts: Fam. -/
import Derived.Test.YtppbonemkipgeaaRows
import Derived.Test.YtppbonemkipgeaaDTy
import Derived.Test.YtppbonemkipgeaaAbsTac
import Derived.Test.YtppbonemkipgeaaAbsData
import Derived.Test.YtppbonemkipgeaaDBase
import Derived.WalkKit
import Derived.ProofKit
import Derived.OpenShut
namespace Go.Proofs.Ytppbonemkipgeaa.Mod
open Go.Proofs.Try Go.Abs Go.Proofs.Ytppbonemkipgeaa.Ty Go.ChangeShapes Go.WideShapes Go.ChangeAt Go.RowKit
set_option linter.unusedSimpArgs false
set_option linter.unusedVariables false
set_option maxHeartbeats 8000000
set_option maxRecDepth 100000
structure KV where
 Key : Int
 Val : Int
 deriving DecidableEq
def encKV (x : KV) : List D := [.int .i64 x.Key, .int .i64 x.Val]
def KV.wf (x : KV) : Prop := (Lit.int .i64 x.Key).wf = true /\ (Lit.int .i64 x.Val).wf = true /\ True
theorem KV.eq_iff (x y : KV) : x = y ↔ x.Key = y.Key /\ x.Val = y.Val := by cases x; cases y; simp
structure Seen where
 Bkt : Int
 Ver : Int
 deriving DecidableEq
def encSeen (x : Seen) : List D := [.int .i64 x.Bkt, .int .i64 x.Ver]
def Seen.wf (x : Seen) : Prop := (Lit.int .i64 x.Bkt).wf = true /\ (Lit.int .i64 x.Ver).wf = true /\ True
theorem Seen.eq_iff (x y : Seen) : x = y ↔ x.Bkt = y.Bkt /\ x.Ver = y.Ver := by cases x; cases y; simp
structure Write where
 Key : Int
 Del : Bool
 Val : Int
 deriving DecidableEq
def encWrite (x : Write) : List D := [.int .i64 x.Key, .bool x.Del, .int .i64 x.Val]
def Write.wf (x : Write) : Prop := (Lit.int .i64 x.Key).wf = true /\ (Lit.int .i64 x.Val).wf = true /\ True
theorem Write.eq_iff (x y : Write) : x = y ↔ x.Key = y.Key /\ x.Del = y.Del /\ x.Val = y.Val := by cases x; cases y; simp
structure Cmd where
 Kind : Int
 Key : Int
 Val : Int
 deriving DecidableEq
def encCmd (x : Cmd) : List D := [.int .i64 x.Kind, .int .i64 x.Key, .int .i64 x.Val]
def Cmd.wf (x : Cmd) : Prop := (Lit.int .i64 x.Kind).wf = true /\ (Lit.int .i64 x.Key).wf = true /\ (Lit.int .i64 x.Val).wf = true /\ True
theorem Cmd.eq_iff (x y : Cmd) : x = y ↔ x.Kind = y.Kind /\ x.Key = y.Key /\ x.Val = y.Val := by cases x; cases y; simp
structure Bkt where
 Head : Int
 Ver : Int
 Lock : Int
 deriving DecidableEq
def encBkt (x : Bkt) : List D := [.int .i64 x.Head, .int .i64 x.Ver, .int .i64 x.Lock]
def Bkt.wf (x : Bkt) : Prop := (Lit.int .i64 x.Head).wf = true /\ (Lit.int .i64 x.Ver).wf = true /\ (Lit.int .i64 x.Lock).wf = true /\ True
theorem Bkt.eq_iff (x y : Bkt) : x = y ↔ x.Head = y.Head /\ x.Ver = y.Ver /\ x.Lock = y.Lock := by cases x; cases y; simp
structure Res where
 Is : Bool
 Val : Int
 deriving DecidableEq
def encRes (x : Res) : List D := [.bool x.Is, .int .i64 x.Val]
def Res.wf (x : Res) : Prop := (Lit.int .i64 x.Val).wf = true /\ True
theorem Res.eq_iff (x y : Res) : x = y ↔ x.Is = y.Is /\ x.Val = y.Val := by cases x; cases y; simp
end Go.Proofs.Ytppbonemkipgeaa.Mod
