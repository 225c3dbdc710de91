/- Contracts: Num. -/
import Derived.Test.YtomcobpfejdnoaaRows
import Derived.Test.YtomcobpfejdnoaaTy
import Derived.Test.YtomcobpfejdnoaaAbsTac
import Derived.Test.YtomcobpfejdnoaaAbsData
import Derived.Test.YtomcobpfejdnoaaMBase
import Derived.WalkKit
import Derived.ProofKit
import Derived.OpenShut
namespace Go.Proofs.Ytomcobpfejdnoaa.Mod
open Go.Abs Go.Proofs.Ytomcobpfejdnoaa.Ty Go.ChangeShapes Go.WideShapes Go.ChangeAt Go.RowKit
set_option linter.unusedSimpArgs false
set_option linter.unusedVariables false
set_option maxHeartbeats 8000000
set_option maxRecDepth 100000
def within (x lo hi : Int) : Bool := decide (lo ≤ x ∧ x ≤ hi)
theorem within_and (x lo hi : Int) : (bif decide (lo ≤ x) then decide (x ≤ hi) else false) = within x lo hi := by simp [within, Bool.decide_and]
def handleOk (x : Int) : Bool := within x 32 223 && decide (x % 32 < 24)
def isLink (x : Int) : Bool := x == 0 || handleOk x
theorem handle_and (x : Int) : (bif within x 32 223 then decide (x.tmod 32 < 24) else false) = handleOk x := by
  unfold handleOk within
  by_cases h : 32 ≤ x
  · rw [Int.tmod_eq_emod_of_nonneg (by omega)]; simp
  · simp [h]
theorem c73 (x lo hi : Int) : Ctr Try.prog 73 [.one (.dat (.int .i64 x)), .one (.dat (.int .i64 lo)), .one (.dat (.int .i64 hi))] [] (.one (.dat (.bool (within x lo hi)))) [] := by
  refine Ctr.bd mixed Try.func73 rfl ?_
  refine evl ?_
  repeat' first
    | ((with_reducible show Abs.Fin _ _ _ _ _ _); refine Fin.nt Try.results73 [] ?_ ?_ ?_ <;> try trivial)
    | with_reducible intro h
    | ((with_reducible show _ ∧ _); apply And.intro)
  all_goals try (first | exact True.intro | (refine rsl ?_; try exact True.intro))
  all_goals first | assumption | exact within_and .. | simp_all
theorem c60 (x lo hi : Int) : Ctr Try.prog 60 [.one (.dat (.int .i64 x)), .one (.dat (.int .i64 lo)), .one (.dat (.int .i64 hi))] [] (.one (.dat (.bool (within x lo hi)))) [] := by
  refine Ctr.bd mixed Try.func60 rfl ?_
  refine evl ?_
  repeat' first
    | ((with_reducible show Abs.Fin _ _ _ _ _ _); refine Fin.nt Try.results60 [] ?_ ?_ ?_ <;> try trivial)
    | with_reducible intro h
    | ((with_reducible show _ ∧ _); apply And.intro)
  all_goals try (first | exact True.intro | (refine rsl ?_; try exact True.intro))
  all_goals first | assumption | exact within_and .. | simp_all
theorem c45 (x : Int) : Ctr Try.prog 45 [.one (.dat (.int .i64 x))] [] (.one (.dat (.bool (handleOk x)))) [] := by
  refine Ctr.bd mixed Try.func45 rfl ?_
  refine evl ?_
  repeat' first
    | ((with_reducible show Abs.Fin _ _ _ _ _ _); refine Fin.nt Try.results45 [] ?_ ?_ ?_ <;> try trivial)
    | ((first | ((with_reducible show CallK _ _ 73 _ _); refine CallK_pure e73 (c73 ..) rfl ?_) | ((with_reducible show CCallK _ _ _ _ 73 _ _); refine CCallK_plain e73 (c73 ..) rfl rfl ?_ ?_) | ((with_reducible show CCallK _ _ _ _ 73 _ _ ∨ _); refine Or.inl (CCallK_plain e73 (c73 ..) rfl rfl ?_ ?_))); refine evl ?_)
    | with_reducible intro h
    | ((with_reducible show _ ∧ _); apply And.intro)
  all_goals try (first | exact True.intro | (refine rsl ?_; try exact True.intro))
  all_goals first | assumption | exact handle_and _ | (simp_all; done)
theorem c34 (x : Int) : Ctr Try.prog 34 [.one (.dat (.int .i64 x))] [] (.one (.dat (.bool (handleOk x)))) [] := by
  refine Ctr.bd mixed Try.func34 rfl ?_
  refine evl ?_
  repeat' first
    | ((with_reducible show Abs.Fin _ _ _ _ _ _); refine Fin.nt Try.results34 [] ?_ ?_ ?_ <;> try trivial)
    | ((first | ((with_reducible show CallK _ _ 60 _ _); refine CallK_pure e60 (c60 ..) rfl ?_) | ((with_reducible show CCallK _ _ _ _ 60 _ _); refine CCallK_plain e60 (c60 ..) rfl rfl ?_ ?_) | ((with_reducible show CCallK _ _ _ _ 60 _ _ ∨ _); refine Or.inl (CCallK_plain e60 (c60 ..) rfl rfl ?_ ?_))); refine evl ?_)
    | with_reducible intro h
    | ((with_reducible show _ ∧ _); apply And.intro)
  all_goals try (first | exact True.intro | (refine rsl ?_; try exact True.intro))
  all_goals first | assumption | exact handle_and _ | (simp_all; done)
theorem c81 (x : Int) : Ctr Try.prog 81 [.one (.dat (.int .i64 x))] [] (.one (.dat (.bool (isLink x)))) [] := by
  refine Ctr.bd mixed Try.func81 rfl ?_
  refine evl ?_
  repeat' first
    | ((with_reducible show Abs.Fin _ _ _ _ _ _); refine Fin.nt Try.results81 [] ?_ ?_ ?_ <;> try trivial)
    | ((first | ((with_reducible show CallK _ _ 45 _ _); refine CallK_pure e45 (c45 ..) rfl ?_) | ((with_reducible show CCallK _ _ _ _ 45 _ _); refine CCallK_plain e45 (c45 ..) rfl rfl ?_ ?_) | ((with_reducible show CCallK _ _ _ _ 45 _ _ ∨ _); refine Or.inl (CCallK_plain e45 (c45 ..) rfl rfl ?_ ?_))); refine evl ?_)
    | with_reducible intro h
    | ((with_reducible show _ ∧ _); apply And.intro)
  all_goals try (first | exact True.intro | (refine rsl ?_; try exact True.intro))
  all_goals first | assumption | (simp_all [isLink]; done)
theorem c97 (x : Int) : Ctr Try.prog 97 [.one (.dat (.int .i64 x))] [] (.one (.dat (.bool (isLink x)))) [] := by
  refine Ctr.bd mixed Try.func97 rfl ?_
  refine evl ?_
  repeat' first
    | ((with_reducible show Abs.Fin _ _ _ _ _ _); refine Fin.nt Try.results97 [] ?_ ?_ ?_ <;> try trivial)
    | ((first | ((with_reducible show CallK _ _ 34 _ _); refine CallK_pure e34 (c34 ..) rfl ?_) | ((with_reducible show CCallK _ _ _ _ 34 _ _); refine CCallK_plain e34 (c34 ..) rfl rfl ?_ ?_) | ((with_reducible show CCallK _ _ _ _ 34 _ _ ∨ _); refine Or.inl (CCallK_plain e34 (c34 ..) rfl rfl ?_ ?_))); refine evl ?_)
    | with_reducible intro h
    | ((with_reducible show _ ∧ _); apply And.intro)
  all_goals try (first | exact True.intro | (refine rsl ?_; try exact True.intro))
  all_goals first | assumption | (simp_all [isLink]; done)
def bktOk (x y z : Int) : Bool := isLink x && within y 0 1000000 && within z 0 3
def nodeOk (x y z : Int) : Bool := within x 0 99 && within y 0 65535 && isLink z
def cmdOk (k x v : Int) : Bool := within k 1 4 && within x 0 99 && ((k == 2 || k == 4) && within v 0 65535 || v == 0)
theorem c53 (x y z : Int) : Ctr Try.prog 53 [.agg [.dat (.int .i64 x), .dat (.int .i64 y), .dat (.int .i64 z)]] [] (.one (.dat (.bool (nodeOk x y z)))) [] := by
  refine Ctr.bd mixed Try.func53 rfl ?_
  refine evl ?_
  repeat' first
    | ((with_reducible show Abs.Fin _ _ _ _ _ _); refine Fin.nt Try.results53 [] ?_ ?_ ?_ <;> try trivial)
    | ((first | ((with_reducible show CallK _ _ 81 _ _); refine CallK_pure e81 (c81 ..) rfl ?_) | ((with_reducible show CCallK _ _ _ _ 81 _ _); refine CCallK_plain e81 (c81 ..) rfl rfl ?_ ?_) | ((with_reducible show CCallK _ _ _ _ 81 _ _ ∨ _); refine Or.inl (CCallK_plain e81 (c81 ..) rfl rfl ?_ ?_)) | ((with_reducible show CallK _ _ 73 _ _); refine CallK_pure e73 (c73 ..) rfl ?_) | ((with_reducible show CCallK _ _ _ _ 73 _ _); refine CCallK_plain e73 (c73 ..) rfl rfl ?_ ?_) | ((with_reducible show CCallK _ _ _ _ 73 _ _ ∨ _); refine Or.inl (CCallK_plain e73 (c73 ..) rfl rfl ?_ ?_))); refine evl ?_)
    | with_reducible intro h
    | ((with_reducible show _ ∧ _); apply And.intro)
  all_goals try (first | exact True.intro | (refine rsl ?_; try exact True.intro))
  all_goals first | assumption | (simp_all [nodeOk]; done)
theorem c78 (x y z : Int) : Ctr Try.prog 78 [.agg [.dat (.int .i64 x), .dat (.int .i64 y), .dat (.int .i64 z)]] [] (.one (.dat (.bool (nodeOk x y z)))) [] := by
  refine Ctr.bd mixed Try.func78 rfl ?_
  refine evl ?_
  repeat' first
    | ((with_reducible show Abs.Fin _ _ _ _ _ _); refine Fin.nt Try.results78 [] ?_ ?_ ?_ <;> try trivial)
    | ((first | ((with_reducible show CallK _ _ 97 _ _); refine CallK_pure e97 (c97 ..) rfl ?_) | ((with_reducible show CCallK _ _ _ _ 97 _ _); refine CCallK_plain e97 (c97 ..) rfl rfl ?_ ?_) | ((with_reducible show CCallK _ _ _ _ 97 _ _ ∨ _); refine Or.inl (CCallK_plain e97 (c97 ..) rfl rfl ?_ ?_)) | ((with_reducible show CallK _ _ 60 _ _); refine CallK_pure e60 (c60 ..) rfl ?_) | ((with_reducible show CCallK _ _ _ _ 60 _ _); refine CCallK_plain e60 (c60 ..) rfl rfl ?_ ?_) | ((with_reducible show CCallK _ _ _ _ 60 _ _ ∨ _); refine Or.inl (CCallK_plain e60 (c60 ..) rfl rfl ?_ ?_))); refine evl ?_)
    | with_reducible intro h
    | ((with_reducible show _ ∧ _); apply And.intro)
  all_goals try (first | exact True.intro | (refine rsl ?_; try exact True.intro))
  all_goals first | assumption | (simp_all [nodeOk]; done)
end Go.Proofs.Ytomcobpfejdnoaa.Mod
