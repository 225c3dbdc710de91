/- Contracts: Num. -/
import Derived.Test.YtcanhdhlbghfiaaGreatRows
import Derived.Test.YtcanhdhlbghfiaaGreatCTy
import Derived.Test.YtcanhdhlbghfiaaGreatAbsTac
import Derived.Test.YtcanhdhlbghfiaaGreatAbsData
import Derived.Test.YtcanhdhlbghfiaaGreatCBase
import Derived.WalkKit
import Derived.ProofKit
import Derived.OpenShut
namespace Go.Proofs.YtcanhdhlbghfiaaGreat.Mod
open Go.Proofs.Tryz Go.Abs Go.Proofs.YtcanhdhlbghfiaaGreat.Ty Go.ChangeShapes Go.WideShapes Go.ChangeAt Go.RowKit
set_option linter.unusedSimpArgs false
set_option linter.unusedVariables false
set_option maxHeartbeats 8000000
set_option maxRecDepth 100000
def within (x lo hi : Int) : Bool := decide (lo <= x /\ x <= hi)
theorem within_and (x lo hi : Int) : (bif decide (lo <= x) then decide (x <= hi) else false) = within x lo hi := by simp [within, Bool.decide_and]
def handleOk (x : Int) : Bool := within x 32 223 && decide (x % 32 < 24)
def isLink (x : Int) : Bool := x == 0 || handleOk x
theorem handle_and (x : Int) : (bif within x 32 223 then decide (x.tmod 32 < 24) else false) = handleOk x := by
 unfold handleOk within
 by_cases h : 32 <= x
 ·rw [Int.tmod_eq_emod_of_nonneg (by omega)]; simp
 ·simp [h]
theorem c73 (x lo hi : Int) : Ctr prog 73 [.one (.dat (.int .i64 x)), .one (.dat (.int .i64 lo)), .one (.dat (.int .i64 hi))] [] (.one (.dat (.bool (within x lo hi)))) [] := by
 refine Ctr.bd mixed func73 rfl ?_
 refine evl ?_
 repeat' first
  | ((with_reducible show Abs.Fin _ _ _ _ _ _); refine Fin.nt results73 [] ?_ ?_ ?_ <;> try trivial)
  | with_reducible intro h
  | ((with_reducible show _ /\ _); apply And.intro)
 all_goals try ((refine rsl ?_; try exact .intro))
 all_goals first | assumption | exact within_and .. | simp_all
theorem c57 (x lo hi : Int) : Ctr prog 57 [.one (.dat (.int .i64 x)), .one (.dat (.int .i64 lo)), .one (.dat (.int .i64 hi))] [] (.one (.dat (.bool (within x lo hi)))) [] := by
 refine Ctr.bd mixed func57 rfl ?_
 refine evl ?_
 repeat' first
  | ((with_reducible show Abs.Fin _ _ _ _ _ _); refine Fin.nt results57 [] ?_ ?_ ?_ <;> try trivial)
  | with_reducible intro h
  | ((with_reducible show _ /\ _); apply And.intro)
 all_goals try ((refine rsl ?_; try exact .intro))
 all_goals first | assumption | exact within_and .. | simp_all
theorem c188 (x : Int) : Ctr prog 188 [.one (.dat (.int .i64 x))] [] (.one (.dat (.bool (handleOk x)))) [] := by
 refine Ctr.bd mixed func188 rfl ?_
 refine evl ?_
 repeat' first
  | ((with_reducible show Abs.Fin _ _ _ _ _ _); refine Fin.nt results188 [] ?_ ?_ ?_ <;> try trivial)
  | ((first | refine CCallK_pl e73 (c73 ..) rfl rfl ?_ | refine CCallK_pm e73 (c73 ..) rfl rfl ?_ | refine ck e73 (c73 ..) rfl ?_); refine evl ?_)
  | with_reducible intro h
  | ((with_reducible show _ /\ _); apply And.intro)
 all_goals try ((refine rsl ?_; try exact .intro))
 all_goals first | assumption | exact handle_and _ | (simp_all; done)
theorem c183 (x : Int) : Ctr prog 183 [.one (.dat (.int .i64 x))] [] (.one (.dat (.bool (handleOk x)))) [] := by
 refine Ctr.bd mixed func183 rfl ?_
 refine evl ?_
 repeat' first
  | ((with_reducible show Abs.Fin _ _ _ _ _ _); refine Fin.nt results183 [] ?_ ?_ ?_ <;> try trivial)
  | ((first | refine CCallK_pl e57 (c57 ..) rfl rfl ?_ | refine CCallK_pm e57 (c57 ..) rfl rfl ?_ | refine ck e57 (c57 ..) rfl ?_); refine evl ?_)
  | with_reducible intro h
  | ((with_reducible show _ /\ _); apply And.intro)
 all_goals try ((refine rsl ?_; try exact .intro))
 all_goals first | assumption | exact handle_and _ | (simp_all; done)
theorem c164 (x : Int) : Ctr prog 164 [.one (.dat (.int .i64 x))] [] (.one (.dat (.bool (isLink x)))) [] := by
 refine Ctr.bd mixed func164 rfl ?_
 refine evl ?_
 repeat' first
  | ((with_reducible show Abs.Fin _ _ _ _ _ _); refine Fin.nt results164 [] ?_ ?_ ?_ <;> try trivial)
  | ((first | refine CCallK_pl e188 (c188 ..) rfl rfl ?_ | refine CCallK_pm e188 (c188 ..) rfl rfl ?_ | refine ck e188 (c188 ..) rfl ?_); refine evl ?_)
  | with_reducible intro h
  | ((with_reducible show _ /\ _); apply And.intro)
 all_goals try ((refine rsl ?_; try exact .intro))
 all_goals first | assumption | (simp_all [isLink]; done)
theorem c142 (x : Int) : Ctr prog 142 [.one (.dat (.int .i64 x))] [] (.one (.dat (.bool (isLink x)))) [] := by
 refine Ctr.bd mixed func142 rfl ?_
 refine evl ?_
 repeat' first
  | ((with_reducible show Abs.Fin _ _ _ _ _ _); refine Fin.nt results142 [] ?_ ?_ ?_ <;> try trivial)
  | ((first | refine CCallK_pl e183 (c183 ..) rfl rfl ?_ | refine CCallK_pm e183 (c183 ..) rfl rfl ?_ | refine ck e183 (c183 ..) rfl ?_); refine evl ?_)
  | with_reducible intro h
  | ((with_reducible show _ /\ _); apply And.intro)
 all_goals try ((refine rsl ?_; try exact .intro))
 all_goals first | assumption | (simp_all [isLink]; done)
def bktOk (x y z : Int) : Bool := isLink x && within y 0 1000000 && within z 0 3
def nodeOk (x y z : Int) : Bool := within x 0 99 && within y 0 65535 && isLink z
def cmdOk (k x v : Int) : Bool := within k 1 4 && within x 0 99 && ((k == 2 || k == 4) && within v 0 65535 || v == 0)
theorem c68 (x y z : Int) : Ctr prog 68 [.agg [.dat (.int .i64 x), .dat (.int .i64 y), .dat (.int .i64 z)]] [] (.one (.dat (.bool (bktOk x y z)))) [] := by
 refine Ctr.bd mixed func68 rfl ?_
 refine evl ?_
 repeat' first
  | ((with_reducible show Abs.Fin _ _ _ _ _ _); refine Fin.nt results68 [] ?_ ?_ ?_ <;> try trivial)
  | ((first | refine CCallK_pl e164 (c164 ..) rfl rfl ?_ | refine CCallK_pm e164 (c164 ..) rfl rfl ?_ | refine ck e164 (c164 ..) rfl ?_ | refine CCallK_pl e73 (c73 ..) rfl rfl ?_ | refine CCallK_pm e73 (c73 ..) rfl rfl ?_ | refine ck e73 (c73 ..) rfl ?_); refine evl ?_)
  | with_reducible intro h
  | ((with_reducible show _ /\ _); apply And.intro)
 all_goals try ((refine rsl ?_; try exact .intro))
 all_goals first | assumption | (simp_all [bktOk]; done)
theorem c58 (x y z : Int) : Ctr prog 58 [.agg [.dat (.int .i64 x), .dat (.int .i64 y), .dat (.int .i64 z)]] [] (.one (.dat (.bool (bktOk x y z)))) [] := by
 refine Ctr.bd mixed func58 rfl ?_
 refine evl ?_
 repeat' first
  | ((with_reducible show Abs.Fin _ _ _ _ _ _); refine Fin.nt results58 [] ?_ ?_ ?_ <;> try trivial)
  | ((first | refine CCallK_pl e142 (c142 ..) rfl rfl ?_ | refine CCallK_pm e142 (c142 ..) rfl rfl ?_ | refine ck e142 (c142 ..) rfl ?_ | refine CCallK_pl e57 (c57 ..) rfl rfl ?_ | refine CCallK_pm e57 (c57 ..) rfl rfl ?_ | refine ck e57 (c57 ..) rfl ?_); refine evl ?_)
  | with_reducible intro h
  | ((with_reducible show _ /\ _); apply And.intro)
 all_goals try ((refine rsl ?_; try exact .intro))
 all_goals first | assumption | (simp_all [bktOk]; done)
theorem c327 (x y z : Int) : Ctr prog 327 [.agg [.dat (.int .i64 x), .dat (.int .i64 y), .dat (.int .i64 z)]] [] (.one (.dat (.bool (nodeOk x y z)))) [] := by
 refine Ctr.bd mixed func327 rfl ?_
 refine evl ?_
 repeat' first
  | ((with_reducible show Abs.Fin _ _ _ _ _ _); refine Fin.nt results327 [] ?_ ?_ ?_ <;> try trivial)
  | ((first | refine CCallK_pl e164 (c164 ..) rfl rfl ?_ | refine CCallK_pm e164 (c164 ..) rfl rfl ?_ | refine ck e164 (c164 ..) rfl ?_ | refine CCallK_pl e73 (c73 ..) rfl rfl ?_ | refine CCallK_pm e73 (c73 ..) rfl rfl ?_ | refine ck e73 (c73 ..) rfl ?_); refine evl ?_)
  | with_reducible intro h
  | ((with_reducible show _ /\ _); apply And.intro)
 all_goals try ((refine rsl ?_; try exact .intro))
 all_goals first | assumption | (simp_all [nodeOk]; done)
theorem c202 (x y z : Int) : Ctr prog 202 [.agg [.dat (.int .i64 x), .dat (.int .i64 y), .dat (.int .i64 z)]] [] (.one (.dat (.bool (nodeOk x y z)))) [] := by
 refine Ctr.bd mixed func202 rfl ?_
 refine evl ?_
 repeat' first
  | ((with_reducible show Abs.Fin _ _ _ _ _ _); refine Fin.nt results202 [] ?_ ?_ ?_ <;> try trivial)
  | ((first | refine CCallK_pl e142 (c142 ..) rfl rfl ?_ | refine CCallK_pm e142 (c142 ..) rfl rfl ?_ | refine ck e142 (c142 ..) rfl ?_ | refine CCallK_pl e57 (c57 ..) rfl rfl ?_ | refine CCallK_pm e57 (c57 ..) rfl rfl ?_ | refine ck e57 (c57 ..) rfl ?_); refine evl ?_)
  | with_reducible intro h
  | ((with_reducible show _ /\ _); apply And.intro)
 all_goals try ((refine rsl ?_; try exact .intro))
 all_goals first | assumption | (simp_all [nodeOk]; done)
theorem c298 (x y z : Int) : Ctr prog 298 [.agg [.dat (.int .i64 x), .dat (.int .i64 y), .dat (.int .i64 z)]] [] (.one (.dat (.bool (cmdOk x y z)))) [] := by
 refine Ctr.bd mixed func298 rfl ?_
 refine evl ?_
 repeat' first
  | ((with_reducible show Abs.Fin _ _ _ _ _ _); refine Fin.nt results298 [] ?_ ?_ ?_ <;> try trivial)
  | ((first | refine CCallK_pl e73 (c73 ..) rfl rfl ?_ | refine CCallK_pm e73 (c73 ..) rfl rfl ?_ | refine ck e73 (c73 ..) rfl ?_); refine evl ?_)
  | with_reducible intro h
  | ((with_reducible show _ /\ _); apply And.intro)
 all_goals try ((refine rsl ?_; try exact .intro))
 all_goals first | assumption | (by_cases h2 : x = 2 <;> by_cases h4 : x = 4 <;> by_cases hz : z = 0 <;> simp_all [cmdOk, within] <;> omega)
theorem c268 (x y z : Int) : Ctr prog 268 [.agg [.dat (.int .i64 x), .dat (.int .i64 y), .dat (.int .i64 z)]] [] (.one (.dat (.bool (cmdOk x y z)))) [] := by
 refine Ctr.bd mixed func268 rfl ?_
 refine evl ?_
 repeat' first
  | ((with_reducible show Abs.Fin _ _ _ _ _ _); refine Fin.nt results268 [] ?_ ?_ ?_ <;> try trivial)
  | ((first | refine CCallK_pl e57 (c57 ..) rfl rfl ?_ | refine CCallK_pm e57 (c57 ..) rfl rfl ?_ | refine ck e57 (c57 ..) rfl ?_); refine evl ?_)
  | with_reducible intro h
  | ((with_reducible show _ /\ _); apply And.intro)
 all_goals try ((refine rsl ?_; try exact .intro))
 all_goals first | assumption | (by_cases h2 : x = 2 <;> by_cases h4 : x = 4 <;> by_cases hz : z = 0 <;> simp_all [cmdOk, within] <;> omega)
end Go.Proofs.YtcanhdhlbghfiaaGreat.Mod
