/- Contracts: Num. -/
import Derived.Test.YtacmmahhlognnaaGreatRows
import Derived.Test.YtacmmahhlognnaaGreatTy
import Derived.Test.YtacmmahhlognnaaGreatAbsTac
import Derived.Test.YtacmmahhlognnaaGreatAbsData
import Derived.Test.YtacmmahhlognnaaGreatMBase
import Derived.WalkKit
import Derived.ProofKit
import Derived.OpenShut
namespace Go.Proofs.YtacmmahhlognnaaGreat.Mod
open Go.Abs Go.Proofs.YtacmmahhlognnaaGreat.Ty Go.ChangeShapes Go.WideShapes Go.ChangeAt Go.RowKit
set_option linter.unusedSimpArgs false
set_option linter.unusedVariables false
set_option maxHeartbeats 8000000
set_option maxRecDepth 100000
def within (x lo hi : Int) : Bool := decide (lo ≤ x ∧ x ≤ hi)
theorem within_and (x lo hi : Int) : (bif decide (lo ≤ x) then decide (x ≤ hi) else false) = within x lo hi := by simp [within, Bool.decide_and]
def handleOk (x : Int) : Bool := within x 32 223 && decide (x % 32 < 24)
def isLink (x : Int) : Bool := x == 0 || handleOk x
theorem handle_and (x : Int) : (bif within x 32 223 then decide (x.tmod 32 < 24) else false) = handleOk x := by
  unfold handleOk within
  by_cases h : 32 ≤ x
  · rw [Int.tmod_eq_emod_of_nonneg (by omega)]; simp
  · simp [h]
theorem c85 (x lo hi : Int) : Ctr Tryz.prog 85 [.one (.dat (.int .i64 x)), .one (.dat (.int .i64 lo)), .one (.dat (.int .i64 hi))] [] (.one (.dat (.bool (within x lo hi)))) [] := by
  refine Ctr.bd mixed Tryz.func85 rfl ?_
  refine evl ?_
  repeat' first
    | ((with_reducible show Abs.Fin _ _ _ _ _ _); refine Fin.nt Tryz.results85 [] ?_ ?_ ?_ <;> try trivial)
    | with_reducible intro h
    | ((with_reducible show _ ∧ _); apply And.intro)
  all_goals try (first | exact True.intro | (refine rsl ?_; try exact True.intro))
  all_goals first | assumption | exact within_and .. | simp_all
theorem c105 (x lo hi : Int) : Ctr Tryz.prog 105 [.one (.dat (.int .i64 x)), .one (.dat (.int .i64 lo)), .one (.dat (.int .i64 hi))] [] (.one (.dat (.bool (within x lo hi)))) [] := by
  refine Ctr.bd mixed Tryz.func105 rfl ?_
  refine evl ?_
  repeat' first
    | ((with_reducible show Abs.Fin _ _ _ _ _ _); refine Fin.nt Tryz.results105 [] ?_ ?_ ?_ <;> try trivial)
    | with_reducible intro h
    | ((with_reducible show _ ∧ _); apply And.intro)
  all_goals try (first | exact True.intro | (refine rsl ?_; try exact True.intro))
  all_goals first | assumption | exact within_and .. | simp_all
theorem c100 (x : Int) : Ctr Tryz.prog 100 [.one (.dat (.int .i64 x))] [] (.one (.dat (.bool (handleOk x)))) [] := by
  refine Ctr.bd mixed Tryz.func100 rfl ?_
  refine evl ?_
  repeat' first
    | ((with_reducible show Abs.Fin _ _ _ _ _ _); refine Fin.nt Tryz.results100 [] ?_ ?_ ?_ <;> try trivial)
    | ((first | ((with_reducible show CallK _ _ 85 _ _); refine CallK_pure e85 (c85 ..) rfl ?_) | ((with_reducible show CCallK _ _ _ _ 85 _ _); refine CCallK_plain e85 (c85 ..) rfl rfl ?_ ?_) | ((with_reducible show CCallK _ _ _ _ 85 _ _ ∨ _); refine Or.inl (CCallK_plain e85 (c85 ..) rfl rfl ?_ ?_))); refine evl ?_)
    | with_reducible intro h
    | ((with_reducible show _ ∧ _); apply And.intro)
  all_goals try (first | exact True.intro | (refine rsl ?_; try exact True.intro))
  all_goals first | assumption | exact handle_and _ | (simp_all; done)
theorem c90 (x : Int) : Ctr Tryz.prog 90 [.one (.dat (.int .i64 x))] [] (.one (.dat (.bool (handleOk x)))) [] := by
  refine Ctr.bd mixed Tryz.func90 rfl ?_
  refine evl ?_
  repeat' first
    | ((with_reducible show Abs.Fin _ _ _ _ _ _); refine Fin.nt Tryz.results90 [] ?_ ?_ ?_ <;> try trivial)
    | ((first | ((with_reducible show CallK _ _ 105 _ _); refine CallK_pure e105 (c105 ..) rfl ?_) | ((with_reducible show CCallK _ _ _ _ 105 _ _); refine CCallK_plain e105 (c105 ..) rfl rfl ?_ ?_) | ((with_reducible show CCallK _ _ _ _ 105 _ _ ∨ _); refine Or.inl (CCallK_plain e105 (c105 ..) rfl rfl ?_ ?_))); refine evl ?_)
    | with_reducible intro h
    | ((with_reducible show _ ∧ _); apply And.intro)
  all_goals try (first | exact True.intro | (refine rsl ?_; try exact True.intro))
  all_goals first | assumption | exact handle_and _ | (simp_all; done)
theorem c58 (x : Int) : Ctr Tryz.prog 58 [.one (.dat (.int .i64 x))] [] (.one (.dat (.bool (isLink x)))) [] := by
  refine Ctr.bd mixed Tryz.func58 rfl ?_
  refine evl ?_
  repeat' first
    | ((with_reducible show Abs.Fin _ _ _ _ _ _); refine Fin.nt Tryz.results58 [] ?_ ?_ ?_ <;> try trivial)
    | ((first | ((with_reducible show CallK _ _ 100 _ _); refine CallK_pure e100 (c100 ..) rfl ?_) | ((with_reducible show CCallK _ _ _ _ 100 _ _); refine CCallK_plain e100 (c100 ..) rfl rfl ?_ ?_) | ((with_reducible show CCallK _ _ _ _ 100 _ _ ∨ _); refine Or.inl (CCallK_plain e100 (c100 ..) rfl rfl ?_ ?_))); refine evl ?_)
    | with_reducible intro h
    | ((with_reducible show _ ∧ _); apply And.intro)
  all_goals try (first | exact True.intro | (refine rsl ?_; try exact True.intro))
  all_goals first | assumption | (simp_all [isLink]; done)
theorem c53 (x : Int) : Ctr Tryz.prog 53 [.one (.dat (.int .i64 x))] [] (.one (.dat (.bool (isLink x)))) [] := by
  refine Ctr.bd mixed Tryz.func53 rfl ?_
  refine evl ?_
  repeat' first
    | ((with_reducible show Abs.Fin _ _ _ _ _ _); refine Fin.nt Tryz.results53 [] ?_ ?_ ?_ <;> try trivial)
    | ((first | ((with_reducible show CallK _ _ 90 _ _); refine CallK_pure e90 (c90 ..) rfl ?_) | ((with_reducible show CCallK _ _ _ _ 90 _ _); refine CCallK_plain e90 (c90 ..) rfl rfl ?_ ?_) | ((with_reducible show CCallK _ _ _ _ 90 _ _ ∨ _); refine Or.inl (CCallK_plain e90 (c90 ..) rfl rfl ?_ ?_))); refine evl ?_)
    | with_reducible intro h
    | ((with_reducible show _ ∧ _); apply And.intro)
  all_goals try (first | exact True.intro | (refine rsl ?_; try exact True.intro))
  all_goals first | assumption | (simp_all [isLink]; done)
def bktOk (x y z : Int) : Bool := isLink x && within y 0 1000000 && within z 0 3
def nodeOk (x y z : Int) : Bool := within x 0 99 && within y 0 65535 && isLink z
def cmdOk (k x v : Int) : Bool := within k 1 4 && within x 0 99 && ((k == 2 || k == 4) && within v 0 65535 || v == 0)
theorem c68 (x y z : Int) : Ctr Tryz.prog 68 [.agg [.dat (.int .i64 x), .dat (.int .i64 y), .dat (.int .i64 z)]] [] (.one (.dat (.bool (bktOk x y z)))) [] := by
  refine Ctr.bd mixed Tryz.func68 rfl ?_
  refine evl ?_
  repeat' first
    | ((with_reducible show Abs.Fin _ _ _ _ _ _); refine Fin.nt Tryz.results68 [] ?_ ?_ ?_ <;> try trivial)
    | ((first | ((with_reducible show CallK _ _ 58 _ _); refine CallK_pure e58 (c58 ..) rfl ?_) | ((with_reducible show CCallK _ _ _ _ 58 _ _); refine CCallK_plain e58 (c58 ..) rfl rfl ?_ ?_) | ((with_reducible show CCallK _ _ _ _ 58 _ _ ∨ _); refine Or.inl (CCallK_plain e58 (c58 ..) rfl rfl ?_ ?_)) | ((with_reducible show CallK _ _ 85 _ _); refine CallK_pure e85 (c85 ..) rfl ?_) | ((with_reducible show CCallK _ _ _ _ 85 _ _); refine CCallK_plain e85 (c85 ..) rfl rfl ?_ ?_) | ((with_reducible show CCallK _ _ _ _ 85 _ _ ∨ _); refine Or.inl (CCallK_plain e85 (c85 ..) rfl rfl ?_ ?_))); refine evl ?_)
    | with_reducible intro h
    | ((with_reducible show _ ∧ _); apply And.intro)
  all_goals try (first | exact True.intro | (refine rsl ?_; try exact True.intro))
  all_goals first | assumption | (simp_all [bktOk]; done)
theorem c66 (x y z : Int) : Ctr Tryz.prog 66 [.agg [.dat (.int .i64 x), .dat (.int .i64 y), .dat (.int .i64 z)]] [] (.one (.dat (.bool (bktOk x y z)))) [] := by
  refine Ctr.bd mixed Tryz.func66 rfl ?_
  refine evl ?_
  repeat' first
    | ((with_reducible show Abs.Fin _ _ _ _ _ _); refine Fin.nt Tryz.results66 [] ?_ ?_ ?_ <;> try trivial)
    | ((first | ((with_reducible show CallK _ _ 53 _ _); refine CallK_pure e53 (c53 ..) rfl ?_) | ((with_reducible show CCallK _ _ _ _ 53 _ _); refine CCallK_plain e53 (c53 ..) rfl rfl ?_ ?_) | ((with_reducible show CCallK _ _ _ _ 53 _ _ ∨ _); refine Or.inl (CCallK_plain e53 (c53 ..) rfl rfl ?_ ?_)) | ((with_reducible show CallK _ _ 105 _ _); refine CallK_pure e105 (c105 ..) rfl ?_) | ((with_reducible show CCallK _ _ _ _ 105 _ _); refine CCallK_plain e105 (c105 ..) rfl rfl ?_ ?_) | ((with_reducible show CCallK _ _ _ _ 105 _ _ ∨ _); refine Or.inl (CCallK_plain e105 (c105 ..) rfl rfl ?_ ?_))); refine evl ?_)
    | with_reducible intro h
    | ((with_reducible show _ ∧ _); apply And.intro)
  all_goals try (first | exact True.intro | (refine rsl ?_; try exact True.intro))
  all_goals first | assumption | (simp_all [bktOk]; done)
theorem c45 (x y z : Int) : Ctr Tryz.prog 45 [.agg [.dat (.int .i64 x), .dat (.int .i64 y), .dat (.int .i64 z)]] [] (.one (.dat (.bool (nodeOk x y z)))) [] := by
  refine Ctr.bd mixed Tryz.func45 rfl ?_
  refine evl ?_
  repeat' first
    | ((with_reducible show Abs.Fin _ _ _ _ _ _); refine Fin.nt Tryz.results45 [] ?_ ?_ ?_ <;> try trivial)
    | ((first | ((with_reducible show CallK _ _ 58 _ _); refine CallK_pure e58 (c58 ..) rfl ?_) | ((with_reducible show CCallK _ _ _ _ 58 _ _); refine CCallK_plain e58 (c58 ..) rfl rfl ?_ ?_) | ((with_reducible show CCallK _ _ _ _ 58 _ _ ∨ _); refine Or.inl (CCallK_plain e58 (c58 ..) rfl rfl ?_ ?_)) | ((with_reducible show CallK _ _ 85 _ _); refine CallK_pure e85 (c85 ..) rfl ?_) | ((with_reducible show CCallK _ _ _ _ 85 _ _); refine CCallK_plain e85 (c85 ..) rfl rfl ?_ ?_) | ((with_reducible show CCallK _ _ _ _ 85 _ _ ∨ _); refine Or.inl (CCallK_plain e85 (c85 ..) rfl rfl ?_ ?_))); refine evl ?_)
    | with_reducible intro h
    | ((with_reducible show _ ∧ _); apply And.intro)
  all_goals try (first | exact True.intro | (refine rsl ?_; try exact True.intro))
  all_goals first | assumption | (simp_all [nodeOk]; done)
theorem c64 (x y z : Int) : Ctr Tryz.prog 64 [.agg [.dat (.int .i64 x), .dat (.int .i64 y), .dat (.int .i64 z)]] [] (.one (.dat (.bool (nodeOk x y z)))) [] := by
  refine Ctr.bd mixed Tryz.func64 rfl ?_
  refine evl ?_
  repeat' first
    | ((with_reducible show Abs.Fin _ _ _ _ _ _); refine Fin.nt Tryz.results64 [] ?_ ?_ ?_ <;> try trivial)
    | ((first | ((with_reducible show CallK _ _ 53 _ _); refine CallK_pure e53 (c53 ..) rfl ?_) | ((with_reducible show CCallK _ _ _ _ 53 _ _); refine CCallK_plain e53 (c53 ..) rfl rfl ?_ ?_) | ((with_reducible show CCallK _ _ _ _ 53 _ _ ∨ _); refine Or.inl (CCallK_plain e53 (c53 ..) rfl rfl ?_ ?_)) | ((with_reducible show CallK _ _ 105 _ _); refine CallK_pure e105 (c105 ..) rfl ?_) | ((with_reducible show CCallK _ _ _ _ 105 _ _); refine CCallK_plain e105 (c105 ..) rfl rfl ?_ ?_) | ((with_reducible show CCallK _ _ _ _ 105 _ _ ∨ _); refine Or.inl (CCallK_plain e105 (c105 ..) rfl rfl ?_ ?_))); refine evl ?_)
    | with_reducible intro h
    | ((with_reducible show _ ∧ _); apply And.intro)
  all_goals try (first | exact True.intro | (refine rsl ?_; try exact True.intro))
  all_goals first | assumption | (simp_all [nodeOk]; done)
end Go.Proofs.YtacmmahhlognnaaGreat.Mod
