/- Contracts: Num. -/
import Derived.Test.YtpniplpnggddpaaGreatRows
import Derived.Test.YtpniplpnggddpaaGreatATy
import Derived.Test.YtpniplpnggddpaaGreatAbsTac
import Derived.Test.YtpniplpnggddpaaGreatAbsData
import Derived.Test.YtpniplpnggddpaaGreatABase
import Derived.WalkKit
import Derived.ProofKit
import Derived.OpenShut
namespace Go.Proofs.YtpniplpnggddpaaGreat.Mod
open Go.Proofs.Tryz Go.Abs Go.Proofs.YtpniplpnggddpaaGreat.Ty Go.ChangeShapes Go.WideShapes Go.ChangeAt Go.RowKit
set_option linter.unusedSimpArgs false
set_option linter.unusedVariables false
set_option maxHeartbeats 8000000
set_option maxRecDepth 100000
def within (x lo hi : Int) : Bool := decide (lo <= x /\ x <= hi)
theorem within_and (x lo hi : Int) : (bif decide (lo <= x) then decide (x <= hi) else false) = within x lo hi := by simp [within, Bool.decide_and]
def handleOk (x : Int) : Bool := within x 32 223 && decide (x % 32 < 24)
def isLink (x : Int) : Bool := x == 0 || handleOk x
theorem handle_and (x : Int) : (bif within x 32 223 then decide (x.tmod 32 < 24) else false) = handleOk x := by
 unfold handleOk within
 by_cases h : 32 <= x
 ·rw [Int.tmod_eq_emod_of_nonneg (by omega)]; simp
 ·simp [h]
theorem c94 (x lo hi : Int) : Ctr prog 94 [.one (.dat (.int .i64 x)), .one (.dat (.int .i64 lo)), .one (.dat (.int .i64 hi))] [] (.one (.dat (.bool (within x lo hi)))) [] := by
 refine Ctr.bd mixed func94 rfl ?_
 refine evl ?_
 repeat' first
  | ((with_reducible show Abs.Fin _ _ _ _ _ _); refine Fin.nt results94 [] ?_ ?_ ?_ <;> try trivial)
  | with_reducible intro h
  | ((with_reducible show _ /\ _); apply And.intro)
 all_goals try ((refine rsl ?_; try exact .intro))
 all_goals first | assumption | exact within_and .. | simp_all
theorem c93 (x lo hi : Int) : Ctr prog 93 [.one (.dat (.int .i64 x)), .one (.dat (.int .i64 lo)), .one (.dat (.int .i64 hi))] [] (.one (.dat (.bool (within x lo hi)))) [] := by
 refine Ctr.bd mixed func93 rfl ?_
 refine evl ?_
 repeat' first
  | ((with_reducible show Abs.Fin _ _ _ _ _ _); refine Fin.nt results93 [] ?_ ?_ ?_ <;> try trivial)
  | with_reducible intro h
  | ((with_reducible show _ /\ _); apply And.intro)
 all_goals try ((refine rsl ?_; try exact .intro))
 all_goals first | assumption | exact within_and .. | simp_all
theorem c81 (x : Int) : Ctr prog 81 [.one (.dat (.int .i64 x))] [] (.one (.dat (.bool (handleOk x)))) [] := by
 refine Ctr.bd mixed func81 rfl ?_
 refine evl ?_
 repeat' first
  | ((with_reducible show Abs.Fin _ _ _ _ _ _); refine Fin.nt results81 [] ?_ ?_ ?_ <;> try trivial)
  | ((first | refine CCallK_pl e94 (c94 ..) rfl rfl ?_ | refine CCallK_pm e94 (c94 ..) rfl rfl ?_ | refine ck e94 (c94 ..) rfl ?_); refine evl ?_)
  | with_reducible intro h
  | ((with_reducible show _ /\ _); apply And.intro)
 all_goals try ((refine rsl ?_; try exact .intro))
 all_goals first | assumption | exact handle_and _ | (simp_all; done)
theorem c66 (x : Int) : Ctr prog 66 [.one (.dat (.int .i64 x))] [] (.one (.dat (.bool (handleOk x)))) [] := by
 refine Ctr.bd mixed func66 rfl ?_
 refine evl ?_
 repeat' first
  | ((with_reducible show Abs.Fin _ _ _ _ _ _); refine Fin.nt results66 [] ?_ ?_ ?_ <;> try trivial)
  | ((first | refine CCallK_pl e93 (c93 ..) rfl rfl ?_ | refine CCallK_pm e93 (c93 ..) rfl rfl ?_ | refine ck e93 (c93 ..) rfl ?_); refine evl ?_)
  | with_reducible intro h
  | ((with_reducible show _ /\ _); apply And.intro)
 all_goals try ((refine rsl ?_; try exact .intro))
 all_goals first | assumption | exact handle_and _ | (simp_all; done)
theorem c35 (x : Int) : Ctr prog 35 [.one (.dat (.int .i64 x))] [] (.one (.dat (.bool (isLink x)))) [] := by
 refine Ctr.bd mixed func35 rfl ?_
 refine evl ?_
 repeat' first
  | ((with_reducible show Abs.Fin _ _ _ _ _ _); refine Fin.nt results35 [] ?_ ?_ ?_ <;> try trivial)
  | ((first | refine CCallK_pl e81 (c81 ..) rfl rfl ?_ | refine CCallK_pm e81 (c81 ..) rfl rfl ?_ | refine ck e81 (c81 ..) rfl ?_); refine evl ?_)
  | with_reducible intro h
  | ((with_reducible show _ /\ _); apply And.intro)
 all_goals try ((refine rsl ?_; try exact .intro))
 all_goals first | assumption | (simp_all [isLink]; done)
theorem c27 (x : Int) : Ctr prog 27 [.one (.dat (.int .i64 x))] [] (.one (.dat (.bool (isLink x)))) [] := by
 refine Ctr.bd mixed func27 rfl ?_
 refine evl ?_
 repeat' first
  | ((with_reducible show Abs.Fin _ _ _ _ _ _); refine Fin.nt results27 [] ?_ ?_ ?_ <;> try trivial)
  | ((first | refine CCallK_pl e66 (c66 ..) rfl rfl ?_ | refine CCallK_pm e66 (c66 ..) rfl rfl ?_ | refine ck e66 (c66 ..) rfl ?_); refine evl ?_)
  | with_reducible intro h
  | ((with_reducible show _ /\ _); apply And.intro)
 all_goals try ((refine rsl ?_; try exact .intro))
 all_goals first | assumption | (simp_all [isLink]; done)
def bktOk (x y z : Int) : Bool := isLink x && within y 0 1000000 && within z 0 3
def nodeOk (x y z : Int) : Bool := within x 0 99 && within y 0 65535 && isLink z
def cmdOk (k x v : Int) : Bool := within k 1 4 && within x 0 99 && ((k == 2 || k == 4) && within v 0 65535 || v == 0)
theorem c54 (x y z : Int) : Ctr prog 54 [.agg [.dat (.int .i64 x), .dat (.int .i64 y), .dat (.int .i64 z)]] [] (.one (.dat (.bool (bktOk x y z)))) [] := by
 refine Ctr.bd mixed func54 rfl ?_
 refine evl ?_
 repeat' first
  | ((with_reducible show Abs.Fin _ _ _ _ _ _); refine Fin.nt results54 [] ?_ ?_ ?_ <;> try trivial)
  | ((first | refine CCallK_pl e35 (c35 ..) rfl rfl ?_ | refine CCallK_pm e35 (c35 ..) rfl rfl ?_ | refine ck e35 (c35 ..) rfl ?_ | refine CCallK_pl e94 (c94 ..) rfl rfl ?_ | refine CCallK_pm e94 (c94 ..) rfl rfl ?_ | refine ck e94 (c94 ..) rfl ?_); refine evl ?_)
  | with_reducible intro h
  | ((with_reducible show _ /\ _); apply And.intro)
 all_goals try ((refine rsl ?_; try exact .intro))
 all_goals first | assumption | (simp_all [bktOk]; done)
theorem c50 (x y z : Int) : Ctr prog 50 [.agg [.dat (.int .i64 x), .dat (.int .i64 y), .dat (.int .i64 z)]] [] (.one (.dat (.bool (bktOk x y z)))) [] := by
 refine Ctr.bd mixed func50 rfl ?_
 refine evl ?_
 repeat' first
  | ((with_reducible show Abs.Fin _ _ _ _ _ _); refine Fin.nt results50 [] ?_ ?_ ?_ <;> try trivial)
  | ((first | refine CCallK_pl e27 (c27 ..) rfl rfl ?_ | refine CCallK_pm e27 (c27 ..) rfl rfl ?_ | refine ck e27 (c27 ..) rfl ?_ | refine CCallK_pl e93 (c93 ..) rfl rfl ?_ | refine CCallK_pm e93 (c93 ..) rfl rfl ?_ | refine ck e93 (c93 ..) rfl ?_); refine evl ?_)
  | with_reducible intro h
  | ((with_reducible show _ /\ _); apply And.intro)
 all_goals try ((refine rsl ?_; try exact .intro))
 all_goals first | assumption | (simp_all [bktOk]; done)
theorem c48 (x y z : Int) : Ctr prog 48 [.agg [.dat (.int .i64 x), .dat (.int .i64 y), .dat (.int .i64 z)]] [] (.one (.dat (.bool (nodeOk x y z)))) [] := by
 refine Ctr.bd mixed func48 rfl ?_
 refine evl ?_
 repeat' first
  | ((with_reducible show Abs.Fin _ _ _ _ _ _); refine Fin.nt results48 [] ?_ ?_ ?_ <;> try trivial)
  | ((first | refine CCallK_pl e35 (c35 ..) rfl rfl ?_ | refine CCallK_pm e35 (c35 ..) rfl rfl ?_ | refine ck e35 (c35 ..) rfl ?_ | refine CCallK_pl e94 (c94 ..) rfl rfl ?_ | refine CCallK_pm e94 (c94 ..) rfl rfl ?_ | refine ck e94 (c94 ..) rfl ?_); refine evl ?_)
  | with_reducible intro h
  | ((with_reducible show _ /\ _); apply And.intro)
 all_goals try ((refine rsl ?_; try exact .intro))
 all_goals first | assumption | (simp_all [nodeOk]; done)
theorem c46 (x y z : Int) : Ctr prog 46 [.agg [.dat (.int .i64 x), .dat (.int .i64 y), .dat (.int .i64 z)]] [] (.one (.dat (.bool (nodeOk x y z)))) [] := by
 refine Ctr.bd mixed func46 rfl ?_
 refine evl ?_
 repeat' first
  | ((with_reducible show Abs.Fin _ _ _ _ _ _); refine Fin.nt results46 [] ?_ ?_ ?_ <;> try trivial)
  | ((first | refine CCallK_pl e27 (c27 ..) rfl rfl ?_ | refine CCallK_pm e27 (c27 ..) rfl rfl ?_ | refine ck e27 (c27 ..) rfl ?_ | refine CCallK_pl e93 (c93 ..) rfl rfl ?_ | refine CCallK_pm e93 (c93 ..) rfl rfl ?_ | refine ck e93 (c93 ..) rfl ?_); refine evl ?_)
  | with_reducible intro h
  | ((with_reducible show _ /\ _); apply And.intro)
 all_goals try ((refine rsl ?_; try exact .intro))
 all_goals first | assumption | (simp_all [nodeOk]; done)
end Go.Proofs.YtpniplpnggddpaaGreat.Mod
