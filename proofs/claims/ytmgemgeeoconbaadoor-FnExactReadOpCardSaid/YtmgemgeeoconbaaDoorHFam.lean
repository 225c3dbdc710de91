/- Contracts: Fam. -/
import Derived.Test.YtmgemgeeoconbaaDoorRows
import Derived.Test.YtmgemgeeoconbaaDoorHTy
import Derived.Test.YtmgemgeeoconbaaDoorAbsTac
import Derived.Test.YtmgemgeeoconbaaDoorAbsData
import Derived.Test.YtmgemgeeoconbaaDoorHBase
import Derived.WalkKit
import Derived.ProofKit
import Derived.OpenShut
namespace Go.Proofs.YtmgemgeeoconbaaDoor.Mod
open Go.Proofs.Tryd Go.Abs Go.Proofs.YtmgemgeeoconbaaDoor.Ty Go.ChangeShapes Go.WideShapes Go.ChangeAt Go.RowKit
set_option linter.unusedSimpArgs false
set_option linter.unusedVariables false
set_option maxHeartbeats 8000000
set_option maxRecDepth 100000
structure Seen where
 Bkt : Int
 Ver : Int
 deriving DecidableEq
def encSeen (x : Seen) : List D := [.int .i64 x.Bkt, .int .i64 x.Ver]
def Seen.wf (x : Seen) : Prop := (Lit.int .i64 x.Bkt).wf = true /\ (Lit.int .i64 x.Ver).wf = true /\ True
theorem Seen.eq_iff (x y : Seen) : x = y ↔ x.Bkt = y.Bkt /\ x.Ver = y.Ver := by cases x; cases y; simp
structure Cmd where
 Kind : Int
 Key : Int
 Val : Int
 deriving DecidableEq
def encCmd (x : Cmd) : List D := [.int .i64 x.Kind, .int .i64 x.Key, .int .i64 x.Val]
def Cmd.wf (x : Cmd) : Prop := (Lit.int .i64 x.Kind).wf = true /\ (Lit.int .i64 x.Key).wf = true /\ (Lit.int .i64 x.Val).wf = true /\ True
theorem Cmd.eq_iff (x y : Cmd) : x = y ↔ x.Kind = y.Kind /\ x.Key = y.Key /\ x.Val = y.Val := by cases x; cases y; simp
structure Bkt where
 Head : Int
 Ver : Int
 Lock : Int
 deriving DecidableEq
def encBkt (x : Bkt) : List D := [.int .i64 x.Head, .int .i64 x.Ver, .int .i64 x.Lock]
def Bkt.wf (x : Bkt) : Prop := (Lit.int .i64 x.Head).wf = true /\ (Lit.int .i64 x.Ver).wf = true /\ (Lit.int .i64 x.Lock).wf = true /\ True
theorem Bkt.eq_iff (x y : Bkt) : x = y ↔ x.Head = y.Head /\ x.Ver = y.Ver /\ x.Lock = y.Lock := by cases x; cases y; simp
structure LRow where
 Handle : Int
 Epoch : Int
 deriving DecidableEq
def encLRow (x : LRow) : List D := [.int .i64 x.Handle, .int .i64 x.Epoch]
def LRow.wf (x : LRow) : Prop := (Lit.int .i64 x.Handle).wf = true /\ (Lit.int .i64 x.Epoch).wf = true /\ True
theorem LRow.eq_iff (x y : LRow) : x = y ↔ x.Handle = y.Handle /\ x.Epoch = y.Epoch := by cases x; cases y; simp
structure Op where
 Kind : Int
 Cell : Int
 Size : Int
 Val : Int
 deriving DecidableEq
def encOp (x : Op) : List D := [.int .i64 x.Kind, .int .i64 x.Cell, .int .i64 x.Size, .int .i64 x.Val]
def Op.wf (x : Op) : Prop := (Lit.int .i64 x.Kind).wf = true /\ (Lit.int .i64 x.Cell).wf = true /\ (Lit.int .i64 x.Size).wf = true /\ (Lit.int .i64 x.Val).wf = true /\ True
theorem Op.eq_iff (x y : Op) : x = y ↔ x.Kind = y.Kind /\ x.Cell = y.Cell /\ x.Size = y.Size /\ x.Val = y.Val := by cases x; cases y; simp
theorem c25 (x y : Op) : Ctr prog 25 [.agg ((encOp x).map .dat), .agg ((encOp y).map .dat)] [] (.one (.dat (.bool (decide (x = y))))) [] := by
 simp only [encOp, List.map_cons, List.map_nil]
 refine Ctr.bd mixed func25 rfl ?_
 refine evl ?_
 repeat' first
  | ((with_reducible show Abs.Fin _ _ _ _ _ _); refine Fin.nt results25 [] ?_ ?_ ?_ <;> try trivial)
  | with_reducible intro h
  | ((with_reducible show _ /\ _); apply And.intro)
 all_goals try ((refine rsl ?_; try exact .intro))
 all_goals simp_all [Op.eq_iff]
structure Pin where
 On : Bool
 Epoch : Int
 Marked : Bool
 Seen : Int
 deriving DecidableEq
def encPin (x : Pin) : List D := [.bool x.On, .int .i64 x.Epoch, .bool x.Marked, .int .i64 x.Seen]
def Pin.wf (x : Pin) : Prop := (Lit.int .i64 x.Epoch).wf = true /\ (Lit.int .i64 x.Seen).wf = true /\ True
theorem Pin.eq_iff (x y : Pin) : x = y ↔ x.On = y.On /\ x.Epoch = y.Epoch /\ x.Marked = y.Marked /\ x.Seen = y.Seen := by cases x; cases y; simp
structure Ev where
 Kind : Int
 Who : Int
 Serial : Int
 Cell : Int
 Handle : Int
 Val : Int
 Code : Int
 deriving DecidableEq
def encEv (x : Ev) : List D := [.int .i64 x.Kind, .int .i64 x.Who, .int .i64 x.Serial, .int .i64 x.Cell, .int .i64 x.Handle, .int .i64 x.Val, .int .i64 x.Code]
def Ev.wf (x : Ev) : Prop := (Lit.int .i64 x.Kind).wf = true /\ (Lit.int .i64 x.Who).wf = true /\ (Lit.int .i64 x.Serial).wf = true /\ (Lit.int .i64 x.Cell).wf = true /\ (Lit.int .i64 x.Handle).wf = true /\ (Lit.int .i64 x.Val).wf = true /\ (Lit.int .i64 x.Code).wf = true /\ True
theorem Ev.eq_iff (x y : Ev) : x = y ↔ x.Kind = y.Kind /\ x.Who = y.Who /\ x.Serial = y.Serial /\ x.Cell = y.Cell /\ x.Handle = y.Handle /\ x.Val = y.Val /\ x.Code = y.Code := by cases x; cases y; simp
end Go.Proofs.YtmgemgeeoconbaaDoor.Mod
