/- Contracts: Num. -/
import Derived.Test.YtkfpkemibnmkoaaRows
import Derived.Test.YtkfpkemibnmkoaaTy
import Derived.Test.YtkfpkemibnmkoaaAbsEval
import Derived.Test.YtkfpkemibnmkoaaAbsData
import Derived.Test.YtkfpkemibnmkoaaMBase
import Derived.WalkKit
import Derived.ProofKit
import Derived.OpenShut
namespace Go.Proofs.Ytkfpkemibnmkoaa.Mod
open Go.Abs Go.Proofs.Ytkfpkemibnmkoaa.Ty Go.ChangeShapes Go.WideShapes Go.ChangeAt Go.RowKit
set_option linter.unusedSimpArgs false
set_option linter.unusedVariables false
set_option maxHeartbeats 8000000
set_option maxRecDepth 100000
def within (x lo hi : Int) : Bool := decide (lo ≤ x ∧ x ≤ hi)
theorem within_and (x lo hi : Int) : (bif decide (lo ≤ x) then decide (x ≤ hi) else false) = within x lo hi := by simp [within, Bool.decide_and]
def handleOk (x : Int) : Bool := within x 32 223 && decide (x % 32 < 24)
def isLink (x : Int) : Bool := x == 0 || handleOk x
theorem handle_and (x : Int) : (bif within x 32 223 then decide (x.tmod 32 < 24) else false) = handleOk x := by
  unfold handleOk within
  by_cases h : 32 ≤ x
  · rw [Int.tmod_eq_emod_of_nonneg (by omega)]; simp
  · simp [h]
theorem c100 (x lo hi : Int) : Ctr Try.prog 100 [.one (.dat (.int .i64 x)), .one (.dat (.int .i64 lo)), .one (.dat (.int .i64 hi))] [] (.one (.dat (.bool (within x lo hi)))) [] := by
  refine Ctr.body mixed Try.func100 rfl (by kernel_rfl) (Nat.le_of_ble_eq_true rfl) (by simp [AV.Clean, AV.Clean1, Leaf.Clean, D.flat]) (by simp [AObj.Sep]) (by simp [AV.Low, AV.Low1, Leaf.Low]) ?_
  simp (maxSteps := 2000000) only [go_sem, ↓reduceIte, reduceCtorEq, Nat.reduceAdd, Nat.reduceMul, Nat.reduceSub, Nat.reduceLT, Nat.reduceLeDiff, Nat.reduceEqDiff, Int.reduceToNat, Int.reduceLT, Int.reduceLE, Int.reduceNeg]
  repeat' first
    | ((with_reducible show Abs.Fin _ _ _ _ _ _); refine Fin.intro Try.results100 [] (by simp (maxSteps := 2000000) only [go_sem, ↓reduceIte, reduceCtorEq, Nat.reduceAdd, Nat.reduceMul, Nat.reduceSub, Nat.reduceLT, Nat.reduceLeDiff, Nat.reduceEqDiff, Int.reduceToNat, Int.reduceLT, Int.reduceLE, Int.reduceNeg, resA]; rfl) ?_ ?_ (by simp) rfl (by simp) ?_ <;> try trivial)
    | with_reducible intro h
    | ((with_reducible show _ ∧ _); apply And.intro)
  all_goals try simp only [packA, AV.renF, AV.renF1, Leaf.renF, AV.one.injEq, Leaf.dat.injEq, D.bool.injEq, D.int.injEq, D.str.injEq, AV.agg.injEq, AV.tup.injEq, List.cons.injEq, and_true, true_and, List.map_cons, List.map_nil]
  all_goals first | assumption | exact within_and .. | simp_all
theorem c99 (x lo hi : Int) : Ctr Try.prog 99 [.one (.dat (.int .i64 x)), .one (.dat (.int .i64 lo)), .one (.dat (.int .i64 hi))] [] (.one (.dat (.bool (within x lo hi)))) [] := by
  refine Ctr.body mixed Try.func99 rfl (by kernel_rfl) (Nat.le_of_ble_eq_true rfl) (by simp [AV.Clean, AV.Clean1, Leaf.Clean, D.flat]) (by simp [AObj.Sep]) (by simp [AV.Low, AV.Low1, Leaf.Low]) ?_
  simp (maxSteps := 2000000) only [go_sem, ↓reduceIte, reduceCtorEq, Nat.reduceAdd, Nat.reduceMul, Nat.reduceSub, Nat.reduceLT, Nat.reduceLeDiff, Nat.reduceEqDiff, Int.reduceToNat, Int.reduceLT, Int.reduceLE, Int.reduceNeg]
  repeat' first
    | ((with_reducible show Abs.Fin _ _ _ _ _ _); refine Fin.intro Try.results99 [] (by simp (maxSteps := 2000000) only [go_sem, ↓reduceIte, reduceCtorEq, Nat.reduceAdd, Nat.reduceMul, Nat.reduceSub, Nat.reduceLT, Nat.reduceLeDiff, Nat.reduceEqDiff, Int.reduceToNat, Int.reduceLT, Int.reduceLE, Int.reduceNeg, resA]; rfl) ?_ ?_ (by simp) rfl (by simp) ?_ <;> try trivial)
    | with_reducible intro h
    | ((with_reducible show _ ∧ _); apply And.intro)
  all_goals try simp only [packA, AV.renF, AV.renF1, Leaf.renF, AV.one.injEq, Leaf.dat.injEq, D.bool.injEq, D.int.injEq, D.str.injEq, AV.agg.injEq, AV.tup.injEq, List.cons.injEq, and_true, true_and, List.map_cons, List.map_nil]
  all_goals first | assumption | exact within_and .. | simp_all
def bktOk (x y z : Int) : Bool := isLink x && within y 0 1000000 && within z 0 3
def nodeOk (x y z : Int) : Bool := within x 0 99 && within y 0 65535 && isLink z
def cmdOk (k x v : Int) : Bool := within k 1 4 && within x 0 99 && ((k == 2 || k == 4) && within v 0 65535 || v == 0)
theorem c95 (x y z : Int) : Ctr Try.prog 95 [.agg [.dat (.int .i64 x), .dat (.int .i64 y), .dat (.int .i64 z)]] [] (.one (.dat (.bool (cmdOk x y z)))) [] := by
  refine Ctr.body mixed Try.func95 rfl (by kernel_rfl) (Nat.le_of_ble_eq_true rfl) (by simp [AV.Clean, AV.Clean1, Leaf.Clean, D.flat]) (by simp [AObj.Sep]) (by simp [AV.Low, AV.Low1, Leaf.Low]) ?_
  simp (maxSteps := 2000000) only [go_sem, ↓reduceIte, reduceCtorEq, Nat.reduceAdd, Nat.reduceMul, Nat.reduceSub, Nat.reduceLT, Nat.reduceLeDiff, Nat.reduceEqDiff, Int.reduceToNat, Int.reduceLT, Int.reduceLE, Int.reduceNeg]
  repeat' first
    | ((with_reducible show Abs.Fin _ _ _ _ _ _); refine Fin.intro Try.results95 [] (by simp (maxSteps := 2000000) only [go_sem, ↓reduceIte, reduceCtorEq, Nat.reduceAdd, Nat.reduceMul, Nat.reduceSub, Nat.reduceLT, Nat.reduceLeDiff, Nat.reduceEqDiff, Int.reduceToNat, Int.reduceLT, Int.reduceLE, Int.reduceNeg, resA]; rfl) ?_ ?_ (by simp) rfl (by simp) ?_ <;> try trivial)
    | ((with_reducible show CallK _ _ 100 _ _); refine CallK_pure e100 (c100 ..) rfl ?_; simp (maxSteps := 2000000) only [go_sem, ↓reduceIte, reduceCtorEq, Nat.reduceAdd, Nat.reduceMul, Nat.reduceSub, Nat.reduceLT, Nat.reduceLeDiff, Nat.reduceEqDiff, Int.reduceToNat, Int.reduceLT, Int.reduceLE, Int.reduceNeg])
    | ((with_reducible show CCallK _ _ _ _ 100 _ _); refine (CCallK_plain e100 (c100 ..) rfl rfl ?_ ?_); simp (maxSteps := 2000000) only [go_sem, ↓reduceIte, reduceCtorEq, Nat.reduceAdd, Nat.reduceMul, Nat.reduceSub, Nat.reduceLT, Nat.reduceLeDiff, Nat.reduceEqDiff, Int.reduceToNat, Int.reduceLT, Int.reduceLE, Int.reduceNeg])
    | ((with_reducible show CCallK _ _ _ _ 100 _ _ ∨ _); refine Or.inl (CCallK_plain e100 (c100 ..) rfl rfl ?_ ?_); simp (maxSteps := 2000000) only [go_sem, ↓reduceIte, reduceCtorEq, Nat.reduceAdd, Nat.reduceMul, Nat.reduceSub, Nat.reduceLT, Nat.reduceLeDiff, Nat.reduceEqDiff, Int.reduceToNat, Int.reduceLT, Int.reduceLE, Int.reduceNeg])
    | with_reducible intro h
    | ((with_reducible show _ ∧ _); apply And.intro)
  all_goals try simp only [packA, AV.renF, AV.renF1, Leaf.renF, AV.one.injEq, Leaf.dat.injEq, D.bool.injEq, D.int.injEq, D.str.injEq, AV.agg.injEq, AV.tup.injEq, List.cons.injEq, and_true, true_and, List.map_cons, List.map_nil]
  all_goals first | assumption | (by_cases h2 : x = 2 <;> by_cases h4 : x = 4 <;> by_cases hz : z = 0 <;> simp_all [cmdOk, within] <;> omega)
theorem c90 (x y z : Int) : Ctr Try.prog 90 [.agg [.dat (.int .i64 x), .dat (.int .i64 y), .dat (.int .i64 z)]] [] (.one (.dat (.bool (cmdOk x y z)))) [] := by
  refine Ctr.body mixed Try.func90 rfl (by kernel_rfl) (Nat.le_of_ble_eq_true rfl) (by simp [AV.Clean, AV.Clean1, Leaf.Clean, D.flat]) (by simp [AObj.Sep]) (by simp [AV.Low, AV.Low1, Leaf.Low]) ?_
  simp (maxSteps := 2000000) only [go_sem, ↓reduceIte, reduceCtorEq, Nat.reduceAdd, Nat.reduceMul, Nat.reduceSub, Nat.reduceLT, Nat.reduceLeDiff, Nat.reduceEqDiff, Int.reduceToNat, Int.reduceLT, Int.reduceLE, Int.reduceNeg]
  repeat' first
    | ((with_reducible show Abs.Fin _ _ _ _ _ _); refine Fin.intro Try.results90 [] (by simp (maxSteps := 2000000) only [go_sem, ↓reduceIte, reduceCtorEq, Nat.reduceAdd, Nat.reduceMul, Nat.reduceSub, Nat.reduceLT, Nat.reduceLeDiff, Nat.reduceEqDiff, Int.reduceToNat, Int.reduceLT, Int.reduceLE, Int.reduceNeg, resA]; rfl) ?_ ?_ (by simp) rfl (by simp) ?_ <;> try trivial)
    | ((with_reducible show CallK _ _ 99 _ _); refine CallK_pure e99 (c99 ..) rfl ?_; simp (maxSteps := 2000000) only [go_sem, ↓reduceIte, reduceCtorEq, Nat.reduceAdd, Nat.reduceMul, Nat.reduceSub, Nat.reduceLT, Nat.reduceLeDiff, Nat.reduceEqDiff, Int.reduceToNat, Int.reduceLT, Int.reduceLE, Int.reduceNeg])
    | ((with_reducible show CCallK _ _ _ _ 99 _ _); refine (CCallK_plain e99 (c99 ..) rfl rfl ?_ ?_); simp (maxSteps := 2000000) only [go_sem, ↓reduceIte, reduceCtorEq, Nat.reduceAdd, Nat.reduceMul, Nat.reduceSub, Nat.reduceLT, Nat.reduceLeDiff, Nat.reduceEqDiff, Int.reduceToNat, Int.reduceLT, Int.reduceLE, Int.reduceNeg])
    | ((with_reducible show CCallK _ _ _ _ 99 _ _ ∨ _); refine Or.inl (CCallK_plain e99 (c99 ..) rfl rfl ?_ ?_); simp (maxSteps := 2000000) only [go_sem, ↓reduceIte, reduceCtorEq, Nat.reduceAdd, Nat.reduceMul, Nat.reduceSub, Nat.reduceLT, Nat.reduceLeDiff, Nat.reduceEqDiff, Int.reduceToNat, Int.reduceLT, Int.reduceLE, Int.reduceNeg])
    | with_reducible intro h
    | ((with_reducible show _ ∧ _); apply And.intro)
  all_goals try simp only [packA, AV.renF, AV.renF1, Leaf.renF, AV.one.injEq, Leaf.dat.injEq, D.bool.injEq, D.int.injEq, D.str.injEq, AV.agg.injEq, AV.tup.injEq, List.cons.injEq, and_true, true_and, List.map_cons, List.map_nil]
  all_goals first | assumption | (by_cases h2 : x = 2 <;> by_cases h4 : x = 4 <;> by_cases hz : z = 0 <;> simp_all [cmdOk, within] <;> omega)
end Go.Proofs.Ytkfpkemibnmkoaa.Mod
