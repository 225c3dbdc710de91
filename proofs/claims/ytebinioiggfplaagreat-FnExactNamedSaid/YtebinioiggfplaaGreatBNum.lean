/- Contracts: Num. -/
import Derived.Test.YtebinioiggfplaaGreatRows
import Derived.Test.YtebinioiggfplaaGreatBTy
import Derived.Test.YtebinioiggfplaaGreatAbsTac
import Derived.Test.YtebinioiggfplaaGreatAbsData
import Derived.Test.YtebinioiggfplaaGreatBBase
import Derived.WalkKit
import Derived.ProofKit
import Derived.OpenShut
namespace Go.Proofs.YtebinioiggfplaaGreat.Mod
open Go.Proofs.Tryz Go.Abs Go.Proofs.YtebinioiggfplaaGreat.Ty Go.ChangeShapes Go.WideShapes Go.ChangeAt Go.RowKit
set_option linter.unusedSimpArgs false
set_option linter.unusedVariables false
set_option maxHeartbeats 8000000
set_option maxRecDepth 100000
def within (x lo hi : Int) : Bool := decide (lo <= x /\ x <= hi)
theorem within_and (x lo hi : Int) : (bif decide (lo <= x) then decide (x <= hi) else false) = within x lo hi := by simp [within, Bool.decide_and]
def handleOk (x : Int) : Bool := within x 32 223 && decide (x % 32 < 24)
def isLink (x : Int) : Bool := x == 0 || handleOk x
theorem handle_and (x : Int) : (bif within x 32 223 then decide (x.tmod 32 < 24) else false) = handleOk x := by
 unfold handleOk within
 by_cases h : 32 <= x
 ·rw [Int.tmod_eq_emod_of_nonneg (by omega)]; simp
 ·simp [h]
theorem c45 (x lo hi : Int) : Ctr prog 45 [.one (.dat (.int .i64 x)), .one (.dat (.int .i64 lo)), .one (.dat (.int .i64 hi))] [] (.one (.dat (.bool (within x lo hi)))) [] := by
 refine Ctr.bd mixed func45 rfl ?_
 refine evl ?_
 repeat' first
  | ((with_reducible show Abs.Fin _ _ _ _ _ _); refine Fin.nt results45 [] ?_ ?_ ?_ <;> try trivial)
  | with_reducible intro h
  | ((with_reducible show _ /\ _); apply And.intro)
 all_goals try ((refine rsl ?_; try exact .intro))
 all_goals first | assumption | exact within_and .. | simp_all
theorem c51 (x lo hi : Int) : Ctr prog 51 [.one (.dat (.int .i64 x)), .one (.dat (.int .i64 lo)), .one (.dat (.int .i64 hi))] [] (.one (.dat (.bool (within x lo hi)))) [] := by
 refine Ctr.bd mixed func51 rfl ?_
 refine evl ?_
 repeat' first
  | ((with_reducible show Abs.Fin _ _ _ _ _ _); refine Fin.nt results51 [] ?_ ?_ ?_ <;> try trivial)
  | with_reducible intro h
  | ((with_reducible show _ /\ _); apply And.intro)
 all_goals try ((refine rsl ?_; try exact .intro))
 all_goals first | assumption | exact within_and .. | simp_all
theorem c144 (x : Int) : Ctr prog 144 [.one (.dat (.int .i64 x))] [] (.one (.dat (.bool (handleOk x)))) [] := by
 refine Ctr.bd mixed func144 rfl ?_
 refine evl ?_
 repeat' first
  | ((with_reducible show Abs.Fin _ _ _ _ _ _); refine Fin.nt results144 [] ?_ ?_ ?_ <;> try trivial)
  | ((first | refine CCallK_pl e45 (c45 ..) rfl rfl ?_ | refine CCallK_pm e45 (c45 ..) rfl rfl ?_ | refine ck e45 (c45 ..) rfl ?_); refine evl ?_)
  | with_reducible intro h
  | ((with_reducible show _ /\ _); apply And.intro)
 all_goals try ((refine rsl ?_; try exact .intro))
 all_goals first | assumption | exact handle_and _ | (simp_all; done)
theorem c121 (x : Int) : Ctr prog 121 [.one (.dat (.int .i64 x))] [] (.one (.dat (.bool (handleOk x)))) [] := by
 refine Ctr.bd mixed func121 rfl ?_
 refine evl ?_
 repeat' first
  | ((with_reducible show Abs.Fin _ _ _ _ _ _); refine Fin.nt results121 [] ?_ ?_ ?_ <;> try trivial)
  | ((first | refine CCallK_pl e51 (c51 ..) rfl rfl ?_ | refine CCallK_pm e51 (c51 ..) rfl rfl ?_ | refine ck e51 (c51 ..) rfl ?_); refine evl ?_)
  | with_reducible intro h
  | ((with_reducible show _ /\ _); apply And.intro)
 all_goals try ((refine rsl ?_; try exact .intro))
 all_goals first | assumption | exact handle_and _ | (simp_all; done)
theorem c77 (x : Int) : Ctr prog 77 [.one (.dat (.int .i64 x))] [] (.one (.dat (.bool (isLink x)))) [] := by
 refine Ctr.bd mixed func77 rfl ?_
 refine evl ?_
 repeat' first
  | ((with_reducible show Abs.Fin _ _ _ _ _ _); refine Fin.nt results77 [] ?_ ?_ ?_ <;> try trivial)
  | ((first | refine CCallK_pl e144 (c144 ..) rfl rfl ?_ | refine CCallK_pm e144 (c144 ..) rfl rfl ?_ | refine ck e144 (c144 ..) rfl ?_); refine evl ?_)
  | with_reducible intro h
  | ((with_reducible show _ /\ _); apply And.intro)
 all_goals try ((refine rsl ?_; try exact .intro))
 all_goals first | assumption | (simp_all [isLink]; done)
theorem c65 (x : Int) : Ctr prog 65 [.one (.dat (.int .i64 x))] [] (.one (.dat (.bool (isLink x)))) [] := by
 refine Ctr.bd mixed func65 rfl ?_
 refine evl ?_
 repeat' first
  | ((with_reducible show Abs.Fin _ _ _ _ _ _); refine Fin.nt results65 [] ?_ ?_ ?_ <;> try trivial)
  | ((first | refine CCallK_pl e121 (c121 ..) rfl rfl ?_ | refine CCallK_pm e121 (c121 ..) rfl rfl ?_ | refine ck e121 (c121 ..) rfl ?_); refine evl ?_)
  | with_reducible intro h
  | ((with_reducible show _ /\ _); apply And.intro)
 all_goals try ((refine rsl ?_; try exact .intro))
 all_goals first | assumption | (simp_all [isLink]; done)
def bktOk (x y z : Int) : Bool := isLink x && within y 0 1000000 && within z 0 3
def nodeOk (x y z : Int) : Bool := within x 0 99 && within y 0 65535 && isLink z
def cmdOk (k x v : Int) : Bool := within k 1 4 && within x 0 99 && ((k == 2 || k == 4) && within v 0 65535 || v == 0)
end Go.Proofs.YtebinioiggfplaaGreat.Mod
