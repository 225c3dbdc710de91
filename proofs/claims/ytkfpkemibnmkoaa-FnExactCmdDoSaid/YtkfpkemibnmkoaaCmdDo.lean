/- FnExactCmdDo: the program answers as the statement says, at every argument. -/
import Derived.Test.YtkfpkemibnmkoaaRows
import Derived.Test.YtkfpkemibnmkoaaTy
import Derived.Test.YtkfpkemibnmkoaaAbsEval
import Derived.Test.YtkfpkemibnmkoaaAbsData
import Derived.Test.YtkfpkemibnmkoaaMFam
import Derived.Test.YtkfpkemibnmkoaaMMap
import Derived.WalkKit
import Derived.ProofKit
import Derived.OpenShut
namespace Go.Proofs.Ytkfpkemibnmkoaa.fnExactCmdDo
open Go.Abs Go.Proofs.Ytkfpkemibnmkoaa.Ty Go.ChangeShapes Go.WideShapes Go.ChangeAt Go.RowKit Go.Proofs.Ytkfpkemibnmkoaa.Mod
set_option linter.unusedSimpArgs false
set_option linter.unusedVariables false
set_option maxHeartbeats 8000000
set_option maxRecDepth 100000
theorem c8 (l : List KV) (hll : l.length ≤ maxLen) (c : Cmd) : Ctr Try.prog 8 [.one (.dat (.sl 2 (l.map encKV))), .agg ((encCmd c).map .dat)] [] (.one (.dat (.bool true))) [] := by
  simp only [encCmd, List.map_cons, List.map_nil]
  refine Ctr.body mixed Try.func8 rfl (by kernel_rfl) (Nat.le_of_ble_eq_true rfl) (by simp [AV.Clean, AV.Clean1, Leaf.Clean, D.flat]) (by simp [AObj.Sep]) (by simp [AV.Low, AV.Low1, Leaf.Low]) ?_
  simp (maxSteps := 2000000) only [go_sem, ↓reduceIte, reduceCtorEq, Nat.reduceAdd, Nat.reduceMul, Nat.reduceSub, Nat.reduceLT, Nat.reduceLeDiff, Nat.reduceEqDiff, Int.reduceToNat, Int.reduceLT, Int.reduceLE, Int.reduceNeg, encCmd, encRes]
  repeat ((with_reducible show _ = true ∧ _); refine ⟨by kernel_rfl, ?_⟩)
  refine CallK_pure e22 (c22 (l.map encKV) 1048576 (by decide) (by decide) (by simpa using hll)) rfl ?_
  simp (maxSteps := 2000000) only [go_sem, ↓reduceIte, reduceCtorEq, Nat.reduceAdd, Nat.reduceMul, Nat.reduceSub, Nat.reduceLT, Nat.reduceLeDiff, Nat.reduceEqDiff, Int.reduceToNat, Int.reduceLT, Int.reduceLE, Int.reduceNeg, encCmd, encRes]
  repeat ((with_reducible show _ = true ∧ _); refine ⟨by kernel_rfl, ?_⟩)
  refine ⟨fun h => ?_, fun h => ?_⟩
  · refine Fin.intro Try.results8 [] (by simp (maxSteps := 2000000) only [go_sem, ↓reduceIte, reduceCtorEq, Nat.reduceAdd, Nat.reduceMul, Nat.reduceSub, Nat.reduceLT, Nat.reduceLeDiff, Nat.reduceEqDiff, Int.reduceToNat, Int.reduceLT, Int.reduceLE, Int.reduceNeg, resA]; rfl) ?_ ?_ (by simp) rfl (by simp) ?_ <;> try trivial
  obtain ⟨hsl, hzl, hgl, hhl⟩ := szL_le (by decide) h
  clear h
  repeat ((with_reducible show _ = true ∧ _); refine ⟨by kernel_rfl, ?_⟩)
  have hr := cmdDo_len l c
  have hmx : maxLen = 9223372036854775807 := rfl
  first
    | refine CallK_pure e24 (c24 l hsl) rfl ?_
    | refine Or.inr ⟨by kernel_rfl, EffK_pure e24 (c24 l hsl) rfl ?_⟩
    | refine Or.inr (EffK_pure e24 (c24 l hsl) rfl ?_)
  simp (maxSteps := 2000000) only [go_sem, ↓reduceIte, reduceCtorEq, Nat.reduceAdd, Nat.reduceMul, Nat.reduceSub, Nat.reduceLT, Nat.reduceLeDiff, Nat.reduceEqDiff, Int.reduceToNat, Int.reduceLT, Int.reduceLE, Int.reduceNeg, encCmd, encRes]
  repeat ((with_reducible show _ = true ∧ _); refine ⟨by kernel_rfl, ?_⟩)
  first
    | refine CallK_pure e42 (c42 c) rfl ?_
    | refine CCallK_plain e42 (c42 c) rfl rfl ?_ (fun _ => by simp)
    | refine Or.inl (CCallK_plain e42 (c42 c) rfl rfl ?_ (fun _ => by simp))
    | refine Or.inr ⟨by kernel_rfl, EffK_pure e42 (c42 c) rfl ?_⟩
    | refine Or.inr (EffK_pure e42 (c42 c) rfl ?_)
  simp (maxSteps := 2000000) only [go_sem, ↓reduceIte, reduceCtorEq, Nat.reduceAdd, Nat.reduceMul, Nat.reduceSub, Nat.reduceLT, Nat.reduceLeDiff, Nat.reduceEqDiff, Int.reduceToNat, Int.reduceLT, Int.reduceLE, Int.reduceNeg, encCmd, encRes]
  repeat ((with_reducible show _ = true ∧ _); refine ⟨by kernel_rfl, ?_⟩)
  first
    | refine CallK_pure e41 (c41 l (by omega) c) rfl ?_
    | refine Or.inr ⟨by kernel_rfl, EffK_pure e41 (c41 l (by omega) c) rfl ?_⟩
    | refine Or.inr (EffK_pure e41 (c41 l (by omega) c) rfl ?_)
  simp (maxSteps := 2000000) only [go_sem, ↓reduceIte, reduceCtorEq, Nat.reduceAdd, Nat.reduceMul, Nat.reduceSub, Nat.reduceLT, Nat.reduceLeDiff, Nat.reduceEqDiff, Int.reduceToNat, Int.reduceLT, Int.reduceLE, Int.reduceNeg, encCmd, encRes]
  repeat ((with_reducible show _ = true ∧ _); refine ⟨by kernel_rfl, ?_⟩)
  first
    | refine CallK_pure e24 (c24 l hsl) rfl ?_
    | refine Or.inr ⟨by kernel_rfl, EffK_pure e24 (c24 l hsl) rfl ?_⟩
    | refine Or.inr (EffK_pure e24 (c24 l hsl) rfl ?_)
  simp (maxSteps := 2000000) only [go_sem, ↓reduceIte, reduceCtorEq, Nat.reduceAdd, Nat.reduceMul, Nat.reduceSub, Nat.reduceLT, Nat.reduceLeDiff, Nat.reduceEqDiff, Int.reduceToNat, Int.reduceLT, Int.reduceLE, Int.reduceNeg, encCmd, encRes]
  repeat ((with_reducible show _ = true ∧ _); refine ⟨by kernel_rfl, ?_⟩)
  first
    | refine CallK_pure e42 (c42 c) rfl ?_
    | refine CCallK_plain e42 (c42 c) rfl rfl ?_ (fun _ => by simp)
    | refine Or.inl (CCallK_plain e42 (c42 c) rfl rfl ?_ (fun _ => by simp))
    | refine Or.inr ⟨by kernel_rfl, EffK_pure e42 (c42 c) rfl ?_⟩
    | refine Or.inr (EffK_pure e42 (c42 c) rfl ?_)
  simp (maxSteps := 2000000) only [go_sem, ↓reduceIte, reduceCtorEq, Nat.reduceAdd, Nat.reduceMul, Nat.reduceSub, Nat.reduceLT, Nat.reduceLeDiff, Nat.reduceEqDiff, Int.reduceToNat, Int.reduceLT, Int.reduceLE, Int.reduceNeg, encCmd, encRes]
  repeat ((with_reducible show _ = true ∧ _); refine ⟨by kernel_rfl, ?_⟩)
  first
    | refine CallK_pure e43 (c43 l (by omega) c) rfl ?_
    | refine Or.inr ⟨by kernel_rfl, EffK_pure e43 (c43 l (by omega) c) rfl ?_⟩
    | refine Or.inr (EffK_pure e43 (c43 l (by omega) c) rfl ?_)
  simp (maxSteps := 2000000) only [go_sem, ↓reduceIte, reduceCtorEq, Nat.reduceAdd, Nat.reduceMul, Nat.reduceSub, Nat.reduceLT, Nat.reduceLeDiff, Nat.reduceEqDiff, Int.reduceToNat, Int.reduceLT, Int.reduceLE, Int.reduceNeg, encCmd, encRes]
  repeat ((with_reducible show _ = true ∧ _); refine ⟨by kernel_rfl, ?_⟩)
  first | refine CallK_pure e26 (c26 (cmdDo l c).1 (cmdDo l c).1 (by omega) (by omega)) rfl ?_ | refine CCallK_plain e26 (c26 (cmdDo l c).1 (cmdDo l c).1 (by omega) (by omega)) rfl rfl ?_ (fun _ => by simp) | refine Or.inl (CCallK_plain e26 (c26 (cmdDo l c).1 (cmdDo l c).1 (by omega) (by omega)) rfl rfl ?_ (fun _ => by simp))
  simp (maxSteps := 2000000) only [go_sem, ↓reduceIte, reduceCtorEq, Nat.reduceAdd, Nat.reduceMul, Nat.reduceSub, Nat.reduceLT, Nat.reduceLeDiff, Nat.reduceEqDiff, Int.reduceToNat, Int.reduceLT, Int.reduceLE, Int.reduceNeg, encCmd, encRes]
  repeat ((with_reducible show _ = true ∧ _); refine ⟨by kernel_rfl, ?_⟩)
  first | refine CallK_pure e44 (c44 (cmdDo l c).2 (cmdDo l c).2) rfl ?_ | refine CCallK_plain e44 (c44 (cmdDo l c).2 (cmdDo l c).2) rfl rfl ?_ (fun _ => by simp) | refine Or.inl (CCallK_plain e44 (c44 (cmdDo l c).2 (cmdDo l c).2) rfl rfl ?_ (fun _ => by simp))
  simp (maxSteps := 2000000) only [go_sem, ↓reduceIte, reduceCtorEq, Nat.reduceAdd, Nat.reduceMul, Nat.reduceSub, Nat.reduceLT, Nat.reduceLeDiff, Nat.reduceEqDiff, Int.reduceToNat, Int.reduceLT, Int.reduceLE, Int.reduceNeg, encCmd, encRes]
  repeat ((with_reducible show _ = true ∧ _); refine ⟨by kernel_rfl, ?_⟩)
  first
    | refine CallK_pure e24 (c24 l hsl) rfl ?_
    | refine Or.inr ⟨by kernel_rfl, EffK_pure e24 (c24 l hsl) rfl ?_⟩
    | refine Or.inr (EffK_pure e24 (c24 l hsl) rfl ?_)
  simp (maxSteps := 2000000) only [go_sem, ↓reduceIte, reduceCtorEq, Nat.reduceAdd, Nat.reduceMul, Nat.reduceSub, Nat.reduceLT, Nat.reduceLeDiff, Nat.reduceEqDiff, Int.reduceToNat, Int.reduceLT, Int.reduceLE, Int.reduceNeg, encCmd, encRes]
  repeat ((with_reducible show _ = true ∧ _); refine ⟨by kernel_rfl, ?_⟩)
  first
    | refine CallK_pure e26 (c26 l l hll hll) rfl ?_
    | refine CCallK_plain e26 (c26 l l hll hll) rfl rfl ?_ (fun _ => by simp)
    | refine Or.inl (CCallK_plain e26 (c26 l l hll hll) rfl rfl ?_ (fun _ => by simp))
    | refine Or.inr ⟨by kernel_rfl, EffK_pure e26 (c26 l l hll hll) rfl ?_⟩
    | refine Or.inr (EffK_pure e26 (c26 l l hll hll) rfl ?_)
  simp (maxSteps := 2000000) only [go_sem, ↓reduceIte, reduceCtorEq, Nat.reduceAdd, Nat.reduceMul, Nat.reduceSub, Nat.reduceLT, Nat.reduceLeDiff, Nat.reduceEqDiff, Int.reduceToNat, Int.reduceLT, Int.reduceLE, Int.reduceNeg, encCmd, encRes]
  repeat ((with_reducible show _ = true ∧ _); refine ⟨by kernel_rfl, ?_⟩)
  refine CallK_os [4] e27 (by simp [osOk, St.obj, find]) (c27 l 1 (by omega) (by omega)) rfl ?_
  simp (maxSteps := 2000000) only [go_sem, ↓reduceIte, reduceCtorEq, Nat.reduceAdd, Nat.reduceMul, Nat.reduceSub, Nat.reduceLT, Nat.reduceLeDiff, Nat.reduceEqDiff, Int.reduceToNat, Int.reduceLT, Int.reduceLE, Int.reduceNeg, encCmd, encRes]
  repeat ((with_reducible show _ = true ∧ _); refine ⟨by kernel_rfl, ?_⟩)
  have hk : decide ((1 + 2 * (l.length : Int)) < 0) = false := by simp only [decide_eq_false_iff_not]; omega
  simp (maxSteps := 2000000) only [go_sem, ↓reduceIte, reduceCtorEq, Nat.reduceAdd, Nat.reduceMul, Nat.reduceSub, Nat.reduceLT, Nat.reduceLeDiff, Nat.reduceEqDiff, Int.reduceToNat, Int.reduceLT, Int.reduceLE, Int.reduceNeg, encCmd, encRes, hk]
  repeat ((with_reducible show _ = true ∧ _); refine ⟨by kernel_rfl, ?_⟩)
  first | refine CallK_pure e26 (c26 (cmdDo l c).1 (cmdDo l c).1 (by omega) (by omega)) rfl ?_ | refine CCallK_plain e26 (c26 (cmdDo l c).1 (cmdDo l c).1 (by omega) (by omega)) rfl rfl ?_ (fun _ => by simp) | refine Or.inl (CCallK_plain e26 (c26 (cmdDo l c).1 (cmdDo l c).1 (by omega) (by omega)) rfl rfl ?_ (fun _ => by simp))
  simp (maxSteps := 2000000) only [go_sem, ↓reduceIte, reduceCtorEq, Nat.reduceAdd, Nat.reduceMul, Nat.reduceSub, Nat.reduceLT, Nat.reduceLeDiff, Nat.reduceEqDiff, Int.reduceToNat, Int.reduceLT, Int.reduceLE, Int.reduceNeg, encCmd, encRes, hk]
  repeat ((with_reducible show _ = true ∧ _); refine ⟨by kernel_rfl, ?_⟩)
  first | refine CallK_pure e44 (c44 (cmdDo l c).2 (cmdDo l c).2) rfl ?_ | refine CCallK_plain e44 (c44 (cmdDo l c).2 (cmdDo l c).2) rfl rfl ?_ (fun _ => by simp) | refine Or.inl (CCallK_plain e44 (c44 (cmdDo l c).2 (cmdDo l c).2) rfl rfl ?_ (fun _ => by simp))
  simp (maxSteps := 2000000) only [go_sem, ↓reduceIte, reduceCtorEq, Nat.reduceAdd, Nat.reduceMul, Nat.reduceSub, Nat.reduceLT, Nat.reduceLeDiff, Nat.reduceEqDiff, Int.reduceToNat, Int.reduceLT, Int.reduceLE, Int.reduceNeg, encCmd, encRes, hk]
  repeat ((with_reducible show _ = true ∧ _); refine ⟨by kernel_rfl, ?_⟩)
  refine CallK_os [5] e27 (by simp [osOk, St.obj, find]) (c27 (cmdDo l c).1 1 (by omega) (by omega)) rfl ?_
  simp (maxSteps := 2000000) only [go_sem, ↓reduceIte, reduceCtorEq, Nat.reduceAdd, Nat.reduceMul, Nat.reduceSub, Nat.reduceLT, Nat.reduceLeDiff, Nat.reduceEqDiff, Int.reduceToNat, Int.reduceLT, Int.reduceLE, Int.reduceNeg, encCmd, encRes, hk]
  repeat ((with_reducible show _ = true ∧ _); refine ⟨by kernel_rfl, ?_⟩)
  first
    | refine CallK_pure e28 (c28 ((cmdDo l c).1).length 1 (by omega) (by omega)) rfl ?_
    | refine CCallK_plain e28 (c28 ((cmdDo l c).1).length 1 (by omega) (by omega)) rfl rfl ?_ (fun _ => by simp)
    | refine Or.inl (CCallK_plain e28 (c28 ((cmdDo l c).1).length 1 (by omega) (by omega)) rfl rfl ?_ (fun _ => by simp))
    | refine Or.inr ⟨by kernel_rfl, EffK_pure e28 (c28 ((cmdDo l c).1).length 1 (by omega) (by omega)) rfl ?_⟩
    | refine Or.inr (EffK_pure e28 (c28 ((cmdDo l c).1).length 1 (by omega) (by omega)) rfl ?_)
  simp (maxSteps := 2000000) only [go_sem, ↓reduceIte, reduceCtorEq, Nat.reduceAdd, Nat.reduceMul, Nat.reduceSub, Nat.reduceLT, Nat.reduceLeDiff, Nat.reduceEqDiff, Int.reduceToNat, Int.reduceLT, Int.reduceLE, Int.reduceNeg, encCmd, encRes, hk]
  repeat ((with_reducible show _ = true ∧ _); refine ⟨by kernel_rfl, ?_⟩)
  have hq1 : decide ((1 + 2 * (((cmdDo l c).1).length : Int)) < 0) = false := by simp only [decide_eq_false_iff_not]; omega
  simp (maxSteps := 2000000) only [go_sem, ↓reduceIte, reduceCtorEq, Nat.reduceAdd, Nat.reduceMul, Nat.reduceSub, Nat.reduceLT, Nat.reduceLeDiff, Nat.reduceEqDiff, Int.reduceToNat, Int.reduceLT, Int.reduceLE, Int.reduceNeg, encCmd, encRes, hk, hq1]
  repeat ((with_reducible show _ = true ∧ _); refine ⟨by kernel_rfl, ?_⟩)
  first
    | refine CallK_pure e24 (c24 l hsl) rfl ?_
    | refine Or.inr ⟨by kernel_rfl, EffK_pure e24 (c24 l hsl) rfl ?_⟩
    | refine Or.inr (EffK_pure e24 (c24 l hsl) rfl ?_)
  simp (maxSteps := 2000000) only [go_sem, ↓reduceIte, reduceCtorEq, Nat.reduceAdd, Nat.reduceMul, Nat.reduceSub, Nat.reduceLT, Nat.reduceLeDiff, Nat.reduceEqDiff, Int.reduceToNat, Int.reduceLT, Int.reduceLE, Int.reduceNeg, encCmd, encRes, hk, hq1]
  repeat ((with_reducible show _ = true ∧ _); refine ⟨by kernel_rfl, ?_⟩)
  first
    | refine CallK_pure e42 (c42 c) rfl ?_
    | refine CCallK_plain e42 (c42 c) rfl rfl ?_ (fun _ => by simp)
    | refine Or.inl (CCallK_plain e42 (c42 c) rfl rfl ?_ (fun _ => by simp))
    | refine Or.inr ⟨by kernel_rfl, EffK_pure e42 (c42 c) rfl ?_⟩
    | refine Or.inr (EffK_pure e42 (c42 c) rfl ?_)
  simp (maxSteps := 2000000) only [go_sem, ↓reduceIte, reduceCtorEq, Nat.reduceAdd, Nat.reduceMul, Nat.reduceSub, Nat.reduceLT, Nat.reduceLeDiff, Nat.reduceEqDiff, Int.reduceToNat, Int.reduceLT, Int.reduceLE, Int.reduceNeg, encCmd, encRes, hk, hq1]
  repeat ((with_reducible show _ = true ∧ _); refine ⟨by kernel_rfl, ?_⟩)
  first
    | refine CallK_pure e43 (c43 l (by omega) c) rfl ?_
    | refine Or.inr ⟨by kernel_rfl, EffK_pure e43 (c43 l (by omega) c) rfl ?_⟩
    | refine Or.inr (EffK_pure e43 (c43 l (by omega) c) rfl ?_)
  simp (maxSteps := 2000000) only [go_sem, ↓reduceIte, reduceCtorEq, Nat.reduceAdd, Nat.reduceMul, Nat.reduceSub, Nat.reduceLT, Nat.reduceLeDiff, Nat.reduceEqDiff, Int.reduceToNat, Int.reduceLT, Int.reduceLE, Int.reduceNeg, encCmd, encRes, hk, hq1]
  repeat ((with_reducible show _ = true ∧ _); refine ⟨by kernel_rfl, ?_⟩)
  first | refine CallK_pure e26 (c26 (cmdDo l c).1 (cmdDo l c).1 (by omega) (by omega)) rfl ?_ | refine CCallK_plain e26 (c26 (cmdDo l c).1 (cmdDo l c).1 (by omega) (by omega)) rfl rfl ?_ (fun _ => by simp) | refine Or.inl (CCallK_plain e26 (c26 (cmdDo l c).1 (cmdDo l c).1 (by omega) (by omega)) rfl rfl ?_ (fun _ => by simp))
  simp (maxSteps := 2000000) only [go_sem, ↓reduceIte, reduceCtorEq, Nat.reduceAdd, Nat.reduceMul, Nat.reduceSub, Nat.reduceLT, Nat.reduceLeDiff, Nat.reduceEqDiff, Int.reduceToNat, Int.reduceLT, Int.reduceLE, Int.reduceNeg, encCmd, encRes, hk, hq1]
  repeat ((with_reducible show _ = true ∧ _); refine ⟨by kernel_rfl, ?_⟩)
  first | refine CallK_pure e44 (c44 (cmdDo l c).2 (cmdDo l c).2) rfl ?_ | refine CCallK_plain e44 (c44 (cmdDo l c).2 (cmdDo l c).2) rfl rfl ?_ (fun _ => by simp) | refine Or.inl (CCallK_plain e44 (c44 (cmdDo l c).2 (cmdDo l c).2) rfl rfl ?_ (fun _ => by simp))
  simp (maxSteps := 2000000) only [go_sem, ↓reduceIte, reduceCtorEq, Nat.reduceAdd, Nat.reduceMul, Nat.reduceSub, Nat.reduceLT, Nat.reduceLeDiff, Nat.reduceEqDiff, Int.reduceToNat, Int.reduceLT, Int.reduceLE, Int.reduceNeg, encCmd, encRes, hk, hq1]
  repeat ((with_reducible show _ = true ∧ _); refine ⟨by kernel_rfl, ?_⟩)
  first
    | refine CallK_pure e28 (c28 ((cmdDo l c).1).length 1 (by omega) (by omega)) rfl ?_
    | refine CCallK_plain e28 (c28 ((cmdDo l c).1).length 1 (by omega) (by omega)) rfl rfl ?_ (fun _ => by simp)
    | refine Or.inl (CCallK_plain e28 (c28 ((cmdDo l c).1).length 1 (by omega) (by omega)) rfl rfl ?_ (fun _ => by simp))
    | refine Or.inr ⟨by kernel_rfl, EffK_pure e28 (c28 ((cmdDo l c).1).length 1 (by omega) (by omega)) rfl ?_⟩
    | refine Or.inr (EffK_pure e28 (c28 ((cmdDo l c).1).length 1 (by omega) (by omega)) rfl ?_)
  simp (maxSteps := 2000000) only [go_sem, ↓reduceIte, reduceCtorEq, Nat.reduceAdd, Nat.reduceMul, Nat.reduceSub, Nat.reduceLT, Nat.reduceLeDiff, Nat.reduceEqDiff, Int.reduceToNat, Int.reduceLT, Int.reduceLE, Int.reduceNeg, encCmd, encRes, hk, hq1]
  repeat ((with_reducible show _ = true ∧ _); refine ⟨by kernel_rfl, ?_⟩)
  refine Fin.intro Try.results8 [] (by simp (maxSteps := 2000000) only [go_sem, ↓reduceIte, reduceCtorEq, Nat.reduceAdd, Nat.reduceMul, Nat.reduceSub, Nat.reduceLT, Nat.reduceLeDiff, Nat.reduceEqDiff, Int.reduceToNat, Int.reduceLT, Int.reduceLE, Int.reduceNeg, resA]; rfl) ?_ ?_ (by simp) rfl (by simp) ?_ <;> try trivial
theorem law (dss : List (List D)) (h : WTAll Try.prog 8 Try.f8.params.toList dss) : Ctr Try.prog 8 (argAVs Try.prog Try.f8.params.toList dss) [] (.one (.dat (.bool true))) [] := by
  rw [Try.params8] at *
  simp only [WTAll, WT, WTs, List.map_cons, List.map_nil, List.toList_toArray, Try.underlying3, Try.underlying31, Try.underlying56, Try.underlying109, tc_3, tc_31, tc_56, tc_109] at h
  obtain ⟨_, _, rfl, ⟨a0, rfl, la0, ha0⟩, ⟨_, _, rfl, ⟨_, _, rfl, ⟨a1Kind, rfl, ha1Kind⟩, ⟨_, _, rfl, ⟨a1Key, rfl, ha1Key⟩, ⟨_, _, rfl, ⟨a1Val, rfl, ha1Val⟩, rfl⟩⟩⟩, rfl⟩⟩ := h
  obtain ⟨l0, rfl, w0⟩ := decRows (enc := encKV) (q := KV.wf) (fun r h => by obtain ⟨_, _, rfl, ⟨xKey, rfl, hxKey⟩, ⟨_, _, rfl, ⟨xVal, rfl, hxVal⟩, rfl⟩⟩ := h; exact ⟨⟨xKey, xVal⟩, rfl, hxKey, hxVal, trivial⟩) ha0
  simp only [argAVs, argAV, List.toList_toArray, Try.underlying3, Try.underlying31, Try.underlying56, Try.underlying109, List.map_cons, List.map_nil, List.cons_append, List.nil_append, List.append_nil, List.headD_cons]
  exact c8 l0 (by simpa using la0) ⟨_, _, _⟩

theorem own : ownKnob Try.prog.godebug = none := by kernel_rfl

set_option maxRecDepth 100000 in
theorem lifted (os : Os) (started : os.Started) (H : Type) (enc : TypeId × Value → H) :
    ReturnsInHanded {} Try.checked os 8 .any (Rows.fnExactCmdDoSpec.pre6 enc Try.prog Try.f8 Rows.fnExactCmdDoRow.domain false) (Rows.fnExactCmdDoSpec.post enc Try.prog Try.f8 false true false false) := by
  refine returnsInHanded_of_change (C := Try.checked) own started (by kernel_rfl) Try.func8
    (ChangeSpec.witness6 (enc := enc) (C := Try.checked) false ⟨#[], #[.slice none 0 0, .agg #[.int .i64 0, .int .i64 0, .int .i64 0]], []⟩ 8 (by kernel_rfl) (by kernel_rfl) (by kernel_rfl) (by kernel_rfl)) ?_
  intro W base args ds gs before hval0 hW hcnd _
  have hW' := hW
  obtain ⟨p, q, hA0, hV, rfl, hfz, hnd⟩ := hW'
  have hA : DataW.TrodAll enc Try.prog W 0 (fun _ => true) true Try.f8.params.toList args.toList ds p := hA0
  obtain ⟨dss, h1, h2⟩ := args_rep (n := 8) (by kernel_rfl) (fun j t v hj hv => hval0 j t v (by simpa using hj) (by simpa using hv)) hA
  have hs : Rows.fnExactCmdDoSpec.fn H (ds ++ gs) = { results := [.lit (.bool true)], args := ds, vars := [] } := by
    obtain ⟨rfl, rfl⟩ := trodVars_none hV
    rw [Try.params8] at hA
    obtain ⟨v0, vs0, d0, ds0, p0, q0, _, rfl, _, _, r0⟩ := trodAll_cons hA
    obtain ⟨v1, vs1, d1, ds1, p1, q1, _, rfl, _, _, r1⟩ := trodAll_cons r0
    obtain ⟨_, rfl, _⟩ := trodAll_nil r1
    rfl
  have hc := law_calls (law dss h1) h2
  rw [Array.toArray_toList] at hc
  refine hc.mono fun e W' ⟨he, hb⟩ => ?_
  subst he
  exact ⟨_, rfl, law_post (by kernel_rfl) (by kernel_rfl) rfl hW hs rfl Try.underlying4 hb⟩

theorem over : Rows.fnExactCmdDoRow.holds Try.pinned (OpenSpec.ofChange Rows.fnExactCmdDoSpec) :=
  OpenClaim.holds_of_wide 8 Try.f8 rfl rfl rfl rfl rfl rfl rfl ⟨rfl, rfl, rfl, rfl, rfl⟩ rfl rfl rfl rfl rfl (by kernel_rfl) Try.func8 (by kernel_rfl)
    (of_decide_eq_true (by kernel_rfl)) (by unfold Func.isWrapper; first | (rw [if_pos (by decide +kernel)]; kernel_rfl) | (rw [if_neg (by decide +kernel)]; exact ⟨rfl, rfl⟩))
    (fun os started H enc _ => lifted os started H enc)

theorem proved : Rows.FnExactCmdDoSaid :=
  over
end Go.Proofs.Ytkfpkemibnmkoaa.fnExactCmdDo
