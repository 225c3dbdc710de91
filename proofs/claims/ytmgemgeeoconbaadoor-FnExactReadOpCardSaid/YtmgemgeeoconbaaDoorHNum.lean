/- Contracts: Num. -/
import Derived.Test.YtmgemgeeoconbaaDoorRows
import Derived.Test.YtmgemgeeoconbaaDoorHTy
import Derived.Test.YtmgemgeeoconbaaDoorAbsTac
import Derived.Test.YtmgemgeeoconbaaDoorAbsData
import Derived.Test.YtmgemgeeoconbaaDoorHBase
import Derived.WalkKit
import Derived.ProofKit
import Derived.OpenShut
namespace Go.Proofs.YtmgemgeeoconbaaDoor.Mod
open Go.Proofs.Tryd Go.Abs Go.Proofs.YtmgemgeeoconbaaDoor.Ty Go.ChangeShapes Go.WideShapes Go.ChangeAt Go.RowKit
set_option linter.unusedSimpArgs false
set_option linter.unusedVariables false
set_option maxHeartbeats 8000000
set_option maxRecDepth 100000
def within (x lo hi : Int) : Bool := decide (lo <= x /\ x <= hi)
theorem within_and (x lo hi : Int) : (bif decide (lo <= x) then decide (x <= hi) else false) = within x lo hi := by simp [within, Bool.decide_and]
def handleOk (x : Int) : Bool := within x 32 223 && decide (x % 32 < 24)
def isLink (x : Int) : Bool := x == 0 || handleOk x
theorem handle_and (x : Int) : (bif within x 32 223 then decide (x.tmod 32 < 24) else false) = handleOk x := by
 unfold handleOk within
 by_cases h : 32 <= x
 ·rw [Int.tmod_eq_emod_of_nonneg (by omega)]; simp
 ·simp [h]
theorem c54 (x lo hi : Int) : Ctr prog 54 [.one (.dat (.int .i64 x)), .one (.dat (.int .i64 lo)), .one (.dat (.int .i64 hi))] [] (.one (.dat (.bool (within x lo hi)))) [] := by
 refine Ctr.bd mixed func54 rfl ?_
 refine evl ?_
 repeat' first
  | ((with_reducible show Abs.Fin _ _ _ _ _ _); refine Fin.nt results54 [] ?_ ?_ ?_ <;> try trivial)
  | with_reducible intro h
  | ((with_reducible show _ /\ _); apply And.intro)
 all_goals try ((refine rsl ?_; try exact .intro))
 all_goals first | assumption | exact within_and .. | simp_all
theorem c53 (x lo hi : Int) : Ctr prog 53 [.one (.dat (.int .i64 x)), .one (.dat (.int .i64 lo)), .one (.dat (.int .i64 hi))] [] (.one (.dat (.bool (within x lo hi)))) [] := by
 refine Ctr.bd mixed func53 rfl ?_
 refine evl ?_
 repeat' first
  | ((with_reducible show Abs.Fin _ _ _ _ _ _); refine Fin.nt results53 [] ?_ ?_ ?_ <;> try trivial)
  | with_reducible intro h
  | ((with_reducible show _ /\ _); apply And.intro)
 all_goals try ((refine rsl ?_; try exact .intro))
 all_goals first | assumption | exact within_and .. | simp_all
def bktOk (x y z : Int) : Bool := isLink x && within y 0 1000000 && within z 0 3
def nodeOk (x y z : Int) : Bool := within x 0 99 && within y 0 65535 && isLink z
def cmdOk (k x v : Int) : Bool := within k 1 4 && within x 0 99 && ((k == 2 || k == 4) && within v 0 65535 || v == 0)
end Go.Proofs.YtmgemgeeoconbaaDoor.Mod
