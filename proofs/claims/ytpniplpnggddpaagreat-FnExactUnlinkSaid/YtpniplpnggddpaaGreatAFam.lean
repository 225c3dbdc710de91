/- Contracts: Fam. -/
import Derived.Test.YtpniplpnggddpaaGreatRows
import Derived.Test.YtpniplpnggddpaaGreatATy
import Derived.Test.YtpniplpnggddpaaGreatAbsTac
import Derived.Test.YtpniplpnggddpaaGreatAbsData
import Derived.Test.YtpniplpnggddpaaGreatABase
import Derived.WalkKit
import Derived.ProofKit
import Derived.OpenShut
namespace Go.Proofs.YtpniplpnggddpaaGreat.Mod
open Go.Proofs.Tryz Go.Abs Go.Proofs.YtpniplpnggddpaaGreat.Ty Go.ChangeShapes Go.WideShapes Go.ChangeAt Go.RowKit
set_option linter.unusedSimpArgs false
set_option linter.unusedVariables false
set_option maxHeartbeats 8000000
set_option maxRecDepth 100000
structure Bkt where
 Head : Int
 Ver : Int
 Lock : Int
 deriving DecidableEq
def encBkt (x : Bkt) : List D := [.int .i64 x.Head, .int .i64 x.Ver, .int .i64 x.Lock]
def Bkt.wf (x : Bkt) : Prop := (Lit.int .i64 x.Head).wf = true /\ (Lit.int .i64 x.Ver).wf = true /\ (Lit.int .i64 x.Lock).wf = true /\ True
theorem Bkt.eq_iff (x y : Bkt) : x = y ↔ x.Head = y.Head /\ x.Ver = y.Ver /\ x.Lock = y.Lock := by cases x; cases y; simp
theorem c18 (x : Bkt) : Ctr prog 18 [.agg ((encBkt x).map .dat)] [] (.agg ((encBkt x).map .dat)) [] := by
 simp only [encBkt, List.map_cons, List.map_nil]
 refine Ctr.bd mixed func18 rfl ?_
 refine evl ?_
 repeat' first
  | ((with_reducible show Abs.Fin _ _ _ _ _ _); refine Fin.nt results18 [] ?_ ?_ ?_ <;> try trivial)
  | with_reducible intro h
  | ((with_reducible show _ /\ _); apply And.intro)
 all_goals first | rfl | simp
theorem c20 (x y : Bkt) : Ctr prog 20 [.agg ((encBkt x).map .dat), .agg ((encBkt y).map .dat)] [] (.one (.dat (.bool (decide (x = y))))) [] := by
 simp only [encBkt, List.map_cons, List.map_nil]
 refine Ctr.bd mixed func20 rfl ?_
 refine evl ?_
 repeat' first
  | ((with_reducible show Abs.Fin _ _ _ _ _ _); refine Fin.nt results20 [] ?_ ?_ ?_ <;> try trivial)
  | with_reducible intro h
  | ((with_reducible show _ /\ _); apply And.intro)
 all_goals try ((refine rsl ?_; try exact .intro))
 all_goals simp_all [Bkt.eq_iff]
structure Node where
 Key : Int
 Val : Int
 Next : Int
 deriving DecidableEq
def encNode (x : Node) : List D := [.int .i64 x.Key, .int .i64 x.Val, .int .i64 x.Next]
def Node.wf (x : Node) : Prop := (Lit.int .i64 x.Key).wf = true /\ (Lit.int .i64 x.Val).wf = true /\ (Lit.int .i64 x.Next).wf = true /\ True
theorem Node.eq_iff (x y : Node) : x = y ↔ x.Key = y.Key /\ x.Val = y.Val /\ x.Next = y.Next := by cases x; cases y; simp
theorem c15 (x : Node) : Ctr prog 15 [.agg ((encNode x).map .dat)] [] (.agg ((encNode x).map .dat)) [] := by
 simp only [encNode, List.map_cons, List.map_nil]
 refine Ctr.bd mixed func15 rfl ?_
 refine evl ?_
 repeat' first
  | ((with_reducible show Abs.Fin _ _ _ _ _ _); refine Fin.nt results15 [] ?_ ?_ ?_ <;> try trivial)
  | with_reducible intro h
  | ((with_reducible show _ /\ _); apply And.intro)
 all_goals first | rfl | simp
end Go.Proofs.YtpniplpnggddpaaGreat.Mod
