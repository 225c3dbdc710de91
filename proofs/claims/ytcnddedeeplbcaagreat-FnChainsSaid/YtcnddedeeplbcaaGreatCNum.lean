/- Contracts: Num. -/
import Derived.Test.YtcnddedeeplbcaaGreatRows
import Derived.Test.YtcnddedeeplbcaaGreatCTy
import Derived.Test.YtcnddedeeplbcaaGreatAbsTac
import Derived.Test.YtcnddedeeplbcaaGreatAbsData
import Derived.Test.YtcnddedeeplbcaaGreatCBase
import Derived.WalkKit
import Derived.ProofKit
import Derived.OpenShut
namespace Go.Proofs.YtcnddedeeplbcaaGreat.Mod
open Go.Proofs.Tryz Go.Abs Go.Proofs.YtcnddedeeplbcaaGreat.Ty Go.ChangeShapes Go.WideShapes Go.ChangeAt Go.RowKit
set_option linter.unusedSimpArgs false
set_option linter.unusedVariables false
set_option maxHeartbeats 8000000
set_option maxRecDepth 100000
def within (x lo hi:Int):Bool:=decide (lo <= x /\ x <= hi)
theorem within_and (x lo hi:Int):(bif decide (lo <= x) then decide (x <= hi) else false)=within x lo hi:=by simp [within,Bool.decide_and]
def handleOk (x:Int):Bool:=within x 32 223 && decide (x % 32 < 24)
def isLink (x:Int):Bool:=x == 0 || handleOk x
theorem handle_and (x:Int):(bif within x 32 223 then decide (x.tmod 32 < 24) else false)=handleOk x:=by
 unfold handleOk within
 by_cases h:32 <= x
 ·rw [Int.tmod_eq_emod_of_nonneg (by omega)];simp
 ·simp [h]
theorem c57 (x lo hi:Int):Ctr prog 57 [.one (.dat (.int .i64 x)),.one (.dat (.int .i64 lo)),.one (.dat (.int .i64 hi))] [] (.one (.dat (.bool (within x lo hi)))) []:=by
 refine Ctr.bd mixed func57 rfl ?_
 refine evl ?_
 repeat' first
  | ((with_reducible show Abs.Fin _ _ _ _ _ _);refine Fin.nt results57 [] ?_ ?_ ?_ <;> try trivial)
  | with_reducible intro h
  | ((with_reducible show _ /\ _);apply And.intro)
 all_goals try ((refine rsl ?_;try exact .intro))
 all_goals first | assumption | exact within_and .. | simp_all
theorem c67 (x lo hi:Int):Ctr prog 67 [.one (.dat (.int .i64 x)),.one (.dat (.int .i64 lo)),.one (.dat (.int .i64 hi))] [] (.one (.dat (.bool (within x lo hi)))) []:=by
 refine Ctr.bd mixed func67 rfl ?_
 refine evl ?_
 repeat' first
  | ((with_reducible show Abs.Fin _ _ _ _ _ _);refine Fin.nt results67 [] ?_ ?_ ?_ <;> try trivial)
  | with_reducible intro h
  | ((with_reducible show _ /\ _);apply And.intro)
 all_goals try ((refine rsl ?_;try exact .intro))
 all_goals first | assumption | exact within_and .. | simp_all
theorem c129 (x:Int):Ctr prog 129 [.one (.dat (.int .i64 x))] [] (.one (.dat (.bool (handleOk x)))) []:=by
 refine Ctr.bd mixed func129 rfl ?_
 refine evl ?_
 repeat' first
  | ((with_reducible show Abs.Fin _ _ _ _ _ _);refine Fin.nt results129 [] ?_ ?_ ?_ <;> try trivial)
  | ((first | refine CCallK_pl e57 (c57 ..) rfl rfl ?_ | refine CCallK_pm e57 (c57 ..) rfl rfl ?_ | refine ck e57 (c57 ..) rfl ?_);refine evl ?_)
  | with_reducible intro h
  | ((with_reducible show _ /\ _);apply And.intro)
 all_goals try ((refine rsl ?_;try exact .intro))
 all_goals first | assumption | exact handle_and _ | (simp_all;done)
theorem c118 (x:Int):Ctr prog 118 [.one (.dat (.int .i64 x))] [] (.one (.dat (.bool (handleOk x)))) []:=by
 refine Ctr.bd mixed func118 rfl ?_
 refine evl ?_
 repeat' first
  | ((with_reducible show Abs.Fin _ _ _ _ _ _);refine Fin.nt results118 [] ?_ ?_ ?_ <;> try trivial)
  | ((first | refine CCallK_pl e67 (c67 ..) rfl rfl ?_ | refine CCallK_pm e67 (c67 ..) rfl rfl ?_ | refine ck e67 (c67 ..) rfl ?_);refine evl ?_)
  | with_reducible intro h
  | ((with_reducible show _ /\ _);apply And.intro)
 all_goals try ((refine rsl ?_;try exact .intro))
 all_goals first | assumption | exact handle_and _ | (simp_all;done)
theorem c52 (x:Int):Ctr prog 52 [.one (.dat (.int .i64 x))] [] (.one (.dat (.bool (isLink x)))) []:=by
 refine Ctr.bd mixed func52 rfl ?_
 refine evl ?_
 repeat' first
  | ((with_reducible show Abs.Fin _ _ _ _ _ _);refine Fin.nt results52 [] ?_ ?_ ?_ <;> try trivial)
  | ((first | refine CCallK_pl e129 (c129 ..) rfl rfl ?_ | refine CCallK_pm e129 (c129 ..) rfl rfl ?_ | refine ck e129 (c129 ..) rfl ?_);refine evl ?_)
  | with_reducible intro h
  | ((with_reducible show _ /\ _);apply And.intro)
 all_goals try ((refine rsl ?_;try exact .intro))
 all_goals first | assumption | (simp_all [isLink];done)
theorem c66 (x:Int):Ctr prog 66 [.one (.dat (.int .i64 x))] [] (.one (.dat (.bool (isLink x)))) []:=by
 refine Ctr.bd mixed func66 rfl ?_
 refine evl ?_
 repeat' first
  | ((with_reducible show Abs.Fin _ _ _ _ _ _);refine Fin.nt results66 [] ?_ ?_ ?_ <;> try trivial)
  | ((first | refine CCallK_pl e118 (c118 ..) rfl rfl ?_ | refine CCallK_pm e118 (c118 ..) rfl rfl ?_ | refine ck e118 (c118 ..) rfl ?_);refine evl ?_)
  | with_reducible intro h
  | ((with_reducible show _ /\ _);apply And.intro)
 all_goals try ((refine rsl ?_;try exact .intro))
 all_goals first | assumption | (simp_all [isLink];done)
def bktOk (x y z:Int):Bool:=isLink x && within y 0 1000000 && within z 0 3
def nodeOk (x y z:Int):Bool:=within x 0 99 && within y 0 65535 && isLink z
def cmdOk (k x v:Int):Bool:=within k 1 4 && within x 0 99 && ((k == 2 || k == 4) && within v 0 65535 || v == 0)
theorem c64 (x y z:Int):Ctr prog 64 [.agg [.dat (.int .i64 x),.dat (.int .i64 y),.dat (.int .i64 z)]] [] (.one (.dat (.bool (bktOk x y z)))) []:=by
 refine Ctr.bd mixed func64 rfl ?_
 refine evl ?_
 repeat' first
  | ((with_reducible show Abs.Fin _ _ _ _ _ _);refine Fin.nt results64 [] ?_ ?_ ?_ <;> try trivial)
  | ((first | refine CCallK_pl e52 (c52 ..) rfl rfl ?_ | refine CCallK_pm e52 (c52 ..) rfl rfl ?_ | refine ck e52 (c52 ..) rfl ?_ | refine CCallK_pl e57 (c57 ..) rfl rfl ?_ | refine CCallK_pm e57 (c57 ..) rfl rfl ?_ | refine ck e57 (c57 ..) rfl ?_);refine evl ?_)
  | with_reducible intro h
  | ((with_reducible show _ /\ _);apply And.intro)
 all_goals try ((refine rsl ?_;try exact .intro))
 all_goals first | assumption | (simp_all [bktOk];done)
theorem c27 (x y z:Int):Ctr prog 27 [.agg [.dat (.int .i64 x),.dat (.int .i64 y),.dat (.int .i64 z)]] [] (.one (.dat (.bool (bktOk x y z)))) []:=by
 refine Ctr.bd mixed func27 rfl ?_
 refine evl ?_
 repeat' first
  | ((with_reducible show Abs.Fin _ _ _ _ _ _);refine Fin.nt results27 [] ?_ ?_ ?_ <;> try trivial)
  | ((first | refine CCallK_pl e66 (c66 ..) rfl rfl ?_ | refine CCallK_pm e66 (c66 ..) rfl rfl ?_ | refine ck e66 (c66 ..) rfl ?_ | refine CCallK_pl e67 (c67 ..) rfl rfl ?_ | refine CCallK_pm e67 (c67 ..) rfl rfl ?_ | refine ck e67 (c67 ..) rfl ?_);refine evl ?_)
  | with_reducible intro h
  | ((with_reducible show _ /\ _);apply And.intro)
 all_goals try ((refine rsl ?_;try exact .intro))
 all_goals first | assumption | (simp_all [bktOk];done)
theorem c15 (x y z:Int):Ctr prog 15 [.agg [.dat (.int .i64 x),.dat (.int .i64 y),.dat (.int .i64 z)]] [] (.one (.dat (.bool (nodeOk x y z)))) []:=by
 refine Ctr.bd mixed func15 rfl ?_
 refine evl ?_
 repeat' first
  | ((with_reducible show Abs.Fin _ _ _ _ _ _);refine Fin.nt results15 [] ?_ ?_ ?_ <;> try trivial)
  | ((first | refine CCallK_pl e52 (c52 ..) rfl rfl ?_ | refine CCallK_pm e52 (c52 ..) rfl rfl ?_ | refine ck e52 (c52 ..) rfl ?_ | refine CCallK_pl e57 (c57 ..) rfl rfl ?_ | refine CCallK_pm e57 (c57 ..) rfl rfl ?_ | refine ck e57 (c57 ..) rfl ?_);refine evl ?_)
  | with_reducible intro h
  | ((with_reducible show _ /\ _);apply And.intro)
 all_goals try ((refine rsl ?_;try exact .intro))
 all_goals first | assumption | (simp_all [nodeOk];done)
theorem c45 (x y z:Int):Ctr prog 45 [.agg [.dat (.int .i64 x),.dat (.int .i64 y),.dat (.int .i64 z)]] [] (.one (.dat (.bool (nodeOk x y z)))) []:=by
 refine Ctr.bd mixed func45 rfl ?_
 refine evl ?_
 repeat' first
  | ((with_reducible show Abs.Fin _ _ _ _ _ _);refine Fin.nt results45 [] ?_ ?_ ?_ <;> try trivial)
  | ((first | refine CCallK_pl e66 (c66 ..) rfl rfl ?_ | refine CCallK_pm e66 (c66 ..) rfl rfl ?_ | refine ck e66 (c66 ..) rfl ?_ | refine CCallK_pl e67 (c67 ..) rfl rfl ?_ | refine CCallK_pm e67 (c67 ..) rfl rfl ?_ | refine ck e67 (c67 ..) rfl ?_);refine evl ?_)
  | with_reducible intro h
  | ((with_reducible show _ /\ _);apply And.intro)
 all_goals try ((refine rsl ?_;try exact .intro))
 all_goals first | assumption | (simp_all [nodeOk];done)
end Go.Proofs.YtcnddedeeplbcaaGreat.Mod
