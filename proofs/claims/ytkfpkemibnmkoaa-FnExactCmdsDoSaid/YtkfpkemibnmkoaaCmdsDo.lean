/- FnExactCmdsDo: the program answers as the statement says, at every argument. -/
import Derived.Test.YtkfpkemibnmkoaaRows
import Derived.Test.YtkfpkemibnmkoaaTy
import Derived.Test.YtkfpkemibnmkoaaAbsEval
import Derived.Test.YtkfpkemibnmkoaaAbsData
import Derived.Test.YtkfpkemibnmkoaaMFam
import Derived.Test.YtkfpkemibnmkoaaMMap
import Derived.WalkKit
import Derived.ProofKit
import Derived.OpenShut
namespace Go.Proofs.Ytkfpkemibnmkoaa.fnExactCmdsDo
open Go.Abs Go.Proofs.Ytkfpkemibnmkoaa.Ty Go.ChangeShapes Go.WideShapes Go.ChangeAt Go.RowKit Go.Proofs.Ytkfpkemibnmkoaa.Mod
set_option linter.unusedSimpArgs false
set_option linter.unusedVariables false
set_option maxHeartbeats 8000000
set_option maxRecDepth 100000
theorem c9 (l : List KV) (hll : l.length ≤ maxLen) (cs : List Cmd) (hlcs : cs.length ≤ maxLen) : Ctr Try.prog 9 [.one (.dat (.sl 2 (l.map encKV))), .one (.dat (.sl 3 (cs.map encCmd)))] [] (.one (.dat (.bool true))) [] := by
  refine Ctr.body mixed Try.func9 rfl (by kernel_rfl) (Nat.le_of_ble_eq_true rfl) (by simp [AV.Clean, AV.Clean1, Leaf.Clean, D.flat]) (by simp [AObj.Sep]) (by simp [AV.Low, AV.Low1, Leaf.Low]) ?_
  simp (maxSteps := 2000000) only [go_sem, ↓reduceIte, reduceCtorEq, Nat.reduceAdd, Nat.reduceMul, Nat.reduceSub, Nat.reduceLT, Nat.reduceLeDiff, Nat.reduceEqDiff, Int.reduceToNat, Int.reduceLT, Int.reduceLE, Int.reduceNeg]
  repeat ((with_reducible show _ = true ∧ _); refine ⟨by kernel_rfl, ?_⟩)
  refine CallK_pure e22 (c22 (l.map encKV) 1048576 (by decide) (by decide) (by simpa using hll)) rfl ?_
  simp (maxSteps := 2000000) only [go_sem, ↓reduceIte, reduceCtorEq, Nat.reduceAdd, Nat.reduceMul, Nat.reduceSub, Nat.reduceLT, Nat.reduceLeDiff, Nat.reduceEqDiff, Int.reduceToNat, Int.reduceLT, Int.reduceLE, Int.reduceNeg]
  repeat ((with_reducible show _ = true ∧ _); refine ⟨by kernel_rfl, ?_⟩)
  refine ⟨fun h => ?_, fun h => ?_⟩
  · refine Fin.intro Try.results9 [] (by simp (maxSteps := 2000000) only [go_sem, ↓reduceIte, reduceCtorEq, Nat.reduceAdd, Nat.reduceMul, Nat.reduceSub, Nat.reduceLT, Nat.reduceLeDiff, Nat.reduceEqDiff, Int.reduceToNat, Int.reduceLT, Int.reduceLE, Int.reduceNeg, resA]; rfl) ?_ ?_ (by simp) rfl (by simp) ?_ <;> try trivial
  obtain ⟨hsl, hzl, hgl, hhl⟩ := szL_le (by decide) h
  clear h
  refine CallK_pure e45 (c45 (cs.map encCmd) (szL 1048576 l.length) hgl hhl (by simpa using hlcs)) rfl ?_
  simp (maxSteps := 2000000) only [go_sem, ↓reduceIte, reduceCtorEq, Nat.reduceAdd, Nat.reduceMul, Nat.reduceSub, Nat.reduceLT, Nat.reduceLeDiff, Nat.reduceEqDiff, Int.reduceToNat, Int.reduceLT, Int.reduceLE, Int.reduceNeg]
  repeat ((with_reducible show _ = true ∧ _); refine ⟨by kernel_rfl, ?_⟩)
  refine ⟨fun h => ?_, fun h => ?_⟩
  · refine Fin.intro Try.results9 [] (by simp (maxSteps := 2000000) only [go_sem, ↓reduceIte, reduceCtorEq, Nat.reduceAdd, Nat.reduceMul, Nat.reduceSub, Nat.reduceLT, Nat.reduceLeDiff, Nat.reduceEqDiff, Int.reduceToNat, Int.reduceLT, Int.reduceLE, Int.reduceNeg, resA]; rfl) ?_ ?_ (by simp) rfl (by simp) ?_ <;> try trivial
  obtain ⟨hscs, hzcs, hgcs, hhcs⟩ := szL_le hhl h
  clear h
  have hr := cmdsDo_len l cs
  have hmx : maxLen = 9223372036854775807 := rfl
  first
    | refine CallK_pure e24 (c24 l hsl) rfl ?_
    | refine Or.inr ⟨by kernel_rfl, EffK_pure e24 (c24 l hsl) rfl ?_⟩
    | refine Or.inr (EffK_pure e24 (c24 l hsl) rfl ?_)
  simp (maxSteps := 2000000) only [go_sem, ↓reduceIte, reduceCtorEq, Nat.reduceAdd, Nat.reduceMul, Nat.reduceSub, Nat.reduceLT, Nat.reduceLeDiff, Nat.reduceEqDiff, Int.reduceToNat, Int.reduceLT, Int.reduceLE, Int.reduceNeg]
  repeat ((with_reducible show _ = true ∧ _); refine ⟨by kernel_rfl, ?_⟩)
  first
    | refine CallK_pure e47 (c47 cs hscs) rfl ?_
    | refine Or.inr ⟨by kernel_rfl, EffK_pure e47 (c47 cs hscs) rfl ?_⟩
    | refine Or.inr (EffK_pure e47 (c47 cs hscs) rfl ?_)
  simp (maxSteps := 2000000) only [go_sem, ↓reduceIte, reduceCtorEq, Nat.reduceAdd, Nat.reduceMul, Nat.reduceSub, Nat.reduceLT, Nat.reduceLeDiff, Nat.reduceEqDiff, Int.reduceToNat, Int.reduceLT, Int.reduceLE, Int.reduceNeg]
  repeat ((with_reducible show _ = true ∧ _); refine ⟨by kernel_rfl, ?_⟩)
  first
    | refine CallK_pure e46 (c46 l (by omega) cs (by omega)) rfl ?_
    | refine Or.inr ⟨by kernel_rfl, EffK_pure e46 (c46 l (by omega) cs (by omega)) rfl ?_⟩
    | refine Or.inr (EffK_pure e46 (c46 l (by omega) cs (by omega)) rfl ?_)
  simp (maxSteps := 2000000) only [go_sem, ↓reduceIte, reduceCtorEq, Nat.reduceAdd, Nat.reduceMul, Nat.reduceSub, Nat.reduceLT, Nat.reduceLeDiff, Nat.reduceEqDiff, Int.reduceToNat, Int.reduceLT, Int.reduceLE, Int.reduceNeg]
  repeat ((with_reducible show _ = true ∧ _); refine ⟨by kernel_rfl, ?_⟩)
  first
    | refine CallK_pure e24 (c24 l hsl) rfl ?_
    | refine Or.inr ⟨by kernel_rfl, EffK_pure e24 (c24 l hsl) rfl ?_⟩
    | refine Or.inr (EffK_pure e24 (c24 l hsl) rfl ?_)
  simp (maxSteps := 2000000) only [go_sem, ↓reduceIte, reduceCtorEq, Nat.reduceAdd, Nat.reduceMul, Nat.reduceSub, Nat.reduceLT, Nat.reduceLeDiff, Nat.reduceEqDiff, Int.reduceToNat, Int.reduceLT, Int.reduceLE, Int.reduceNeg]
  repeat ((with_reducible show _ = true ∧ _); refine ⟨by kernel_rfl, ?_⟩)
  first
    | refine CallK_pure e47 (c47 cs hscs) rfl ?_
    | refine Or.inr ⟨by kernel_rfl, EffK_pure e47 (c47 cs hscs) rfl ?_⟩
    | refine Or.inr (EffK_pure e47 (c47 cs hscs) rfl ?_)
  simp (maxSteps := 2000000) only [go_sem, ↓reduceIte, reduceCtorEq, Nat.reduceAdd, Nat.reduceMul, Nat.reduceSub, Nat.reduceLT, Nat.reduceLeDiff, Nat.reduceEqDiff, Int.reduceToNat, Int.reduceLT, Int.reduceLE, Int.reduceNeg]
  repeat ((with_reducible show _ = true ∧ _); refine ⟨by kernel_rfl, ?_⟩)
  first
    | refine CallK_pure e48 (c48 l (by omega) cs (by omega)) rfl ?_
    | refine Or.inr ⟨by kernel_rfl, EffK_pure e48 (c48 l (by omega) cs (by omega)) rfl ?_⟩
    | refine Or.inr (EffK_pure e48 (c48 l (by omega) cs (by omega)) rfl ?_)
  simp (maxSteps := 2000000) only [go_sem, ↓reduceIte, reduceCtorEq, Nat.reduceAdd, Nat.reduceMul, Nat.reduceSub, Nat.reduceLT, Nat.reduceLeDiff, Nat.reduceEqDiff, Int.reduceToNat, Int.reduceLT, Int.reduceLE, Int.reduceNeg]
  repeat ((with_reducible show _ = true ∧ _); refine ⟨by kernel_rfl, ?_⟩)
  first | refine CallK_pure e26 (c26 (cmdsDo l cs).1 (cmdsDo l cs).1 (by omega) (by omega)) rfl ?_ | refine CCallK_plain e26 (c26 (cmdsDo l cs).1 (cmdsDo l cs).1 (by omega) (by omega)) rfl rfl ?_ (fun _ => by simp) | refine Or.inl (CCallK_plain e26 (c26 (cmdsDo l cs).1 (cmdsDo l cs).1 (by omega) (by omega)) rfl rfl ?_ (fun _ => by simp))
  simp (maxSteps := 2000000) only [go_sem, ↓reduceIte, reduceCtorEq, Nat.reduceAdd, Nat.reduceMul, Nat.reduceSub, Nat.reduceLT, Nat.reduceLeDiff, Nat.reduceEqDiff, Int.reduceToNat, Int.reduceLT, Int.reduceLE, Int.reduceNeg]
  repeat ((with_reducible show _ = true ∧ _); refine ⟨by kernel_rfl, ?_⟩)
  first | refine CallK_pure e49 (c49 (cmdsDo l cs).2 (cmdsDo l cs).2 (by omega) (by omega)) rfl ?_ | refine CCallK_plain e49 (c49 (cmdsDo l cs).2 (cmdsDo l cs).2 (by omega) (by omega)) rfl rfl ?_ (fun _ => by simp) | refine Or.inl (CCallK_plain e49 (c49 (cmdsDo l cs).2 (cmdsDo l cs).2 (by omega) (by omega)) rfl rfl ?_ (fun _ => by simp))
  simp (maxSteps := 2000000) only [go_sem, ↓reduceIte, reduceCtorEq, Nat.reduceAdd, Nat.reduceMul, Nat.reduceSub, Nat.reduceLT, Nat.reduceLeDiff, Nat.reduceEqDiff, Int.reduceToNat, Int.reduceLT, Int.reduceLE, Int.reduceNeg]
  repeat ((with_reducible show _ = true ∧ _); refine ⟨by kernel_rfl, ?_⟩)
  first
    | refine CallK_pure e24 (c24 l hsl) rfl ?_
    | refine Or.inr ⟨by kernel_rfl, EffK_pure e24 (c24 l hsl) rfl ?_⟩
    | refine Or.inr (EffK_pure e24 (c24 l hsl) rfl ?_)
  simp (maxSteps := 2000000) only [go_sem, ↓reduceIte, reduceCtorEq, Nat.reduceAdd, Nat.reduceMul, Nat.reduceSub, Nat.reduceLT, Nat.reduceLeDiff, Nat.reduceEqDiff, Int.reduceToNat, Int.reduceLT, Int.reduceLE, Int.reduceNeg]
  repeat ((with_reducible show _ = true ∧ _); refine ⟨by kernel_rfl, ?_⟩)
  first
    | refine CallK_pure e26 (c26 l l hll hll) rfl ?_
    | refine CCallK_plain e26 (c26 l l hll hll) rfl rfl ?_ (fun _ => by simp)
    | refine Or.inl (CCallK_plain e26 (c26 l l hll hll) rfl rfl ?_ (fun _ => by simp))
    | refine Or.inr ⟨by kernel_rfl, EffK_pure e26 (c26 l l hll hll) rfl ?_⟩
    | refine Or.inr (EffK_pure e26 (c26 l l hll hll) rfl ?_)
  simp (maxSteps := 2000000) only [go_sem, ↓reduceIte, reduceCtorEq, Nat.reduceAdd, Nat.reduceMul, Nat.reduceSub, Nat.reduceLT, Nat.reduceLeDiff, Nat.reduceEqDiff, Int.reduceToNat, Int.reduceLT, Int.reduceLE, Int.reduceNeg]
  repeat ((with_reducible show _ = true ∧ _); refine ⟨by kernel_rfl, ?_⟩)
  first
    | refine CallK_pure e47 (c47 cs hscs) rfl ?_
    | refine Or.inr ⟨by kernel_rfl, EffK_pure e47 (c47 cs hscs) rfl ?_⟩
    | refine Or.inr (EffK_pure e47 (c47 cs hscs) rfl ?_)
  simp (maxSteps := 2000000) only [go_sem, ↓reduceIte, reduceCtorEq, Nat.reduceAdd, Nat.reduceMul, Nat.reduceSub, Nat.reduceLT, Nat.reduceLeDiff, Nat.reduceEqDiff, Int.reduceToNat, Int.reduceLT, Int.reduceLE, Int.reduceNeg]
  repeat ((with_reducible show _ = true ∧ _); refine ⟨by kernel_rfl, ?_⟩)
  first
    | refine CallK_pure e50 (c50 cs cs hlcs hlcs) rfl ?_
    | refine CCallK_plain e50 (c50 cs cs hlcs hlcs) rfl rfl ?_ (fun _ => by simp)
    | refine Or.inl (CCallK_plain e50 (c50 cs cs hlcs hlcs) rfl rfl ?_ (fun _ => by simp))
    | refine Or.inr ⟨by kernel_rfl, EffK_pure e50 (c50 cs cs hlcs hlcs) rfl ?_⟩
    | refine Or.inr (EffK_pure e50 (c50 cs cs hlcs hlcs) rfl ?_)
  simp (maxSteps := 2000000) only [go_sem, ↓reduceIte, reduceCtorEq, Nat.reduceAdd, Nat.reduceMul, Nat.reduceSub, Nat.reduceLT, Nat.reduceLeDiff, Nat.reduceEqDiff, Int.reduceToNat, Int.reduceLT, Int.reduceLE, Int.reduceNeg]
  repeat ((with_reducible show _ = true ∧ _); refine ⟨by kernel_rfl, ?_⟩)
  refine CallK_os [4] e27 (by simp [osOk, St.obj, find]) (c27 l 1 (by omega) (by omega)) rfl ?_
  simp (maxSteps := 2000000) only [go_sem, ↓reduceIte, reduceCtorEq, Nat.reduceAdd, Nat.reduceMul, Nat.reduceSub, Nat.reduceLT, Nat.reduceLeDiff, Nat.reduceEqDiff, Int.reduceToNat, Int.reduceLT, Int.reduceLE, Int.reduceNeg]
  repeat ((with_reducible show _ = true ∧ _); refine ⟨by kernel_rfl, ?_⟩)
  refine CallK_os [5] e51 (by simp [osOk, St.obj, find]) (c51 cs (1 + 2 * (l.length : Int)) (by omega) (by omega)) rfl ?_
  simp (maxSteps := 2000000) only [go_sem, ↓reduceIte, reduceCtorEq, Nat.reduceAdd, Nat.reduceMul, Nat.reduceSub, Nat.reduceLT, Nat.reduceLeDiff, Nat.reduceEqDiff, Int.reduceToNat, Int.reduceLT, Int.reduceLE, Int.reduceNeg]
  repeat ((with_reducible show _ = true ∧ _); refine ⟨by kernel_rfl, ?_⟩)
  have hk : decide (((1 + 2 * (l.length : Int)) + 3 * (cs.length : Int)) < 0) = false := by simp only [decide_eq_false_iff_not]; omega
  simp (maxSteps := 2000000) only [go_sem, ↓reduceIte, reduceCtorEq, Nat.reduceAdd, Nat.reduceMul, Nat.reduceSub, Nat.reduceLT, Nat.reduceLeDiff, Nat.reduceEqDiff, Int.reduceToNat, Int.reduceLT, Int.reduceLE, Int.reduceNeg, hk]
  repeat ((with_reducible show _ = true ∧ _); refine ⟨by kernel_rfl, ?_⟩)
  first | refine CallK_pure e26 (c26 (cmdsDo l cs).1 (cmdsDo l cs).1 (by omega) (by omega)) rfl ?_ | refine CCallK_plain e26 (c26 (cmdsDo l cs).1 (cmdsDo l cs).1 (by omega) (by omega)) rfl rfl ?_ (fun _ => by simp) | refine Or.inl (CCallK_plain e26 (c26 (cmdsDo l cs).1 (cmdsDo l cs).1 (by omega) (by omega)) rfl rfl ?_ (fun _ => by simp))
  simp (maxSteps := 2000000) only [go_sem, ↓reduceIte, reduceCtorEq, Nat.reduceAdd, Nat.reduceMul, Nat.reduceSub, Nat.reduceLT, Nat.reduceLeDiff, Nat.reduceEqDiff, Int.reduceToNat, Int.reduceLT, Int.reduceLE, Int.reduceNeg, hk]
  repeat ((with_reducible show _ = true ∧ _); refine ⟨by kernel_rfl, ?_⟩)
  first | refine CallK_pure e49 (c49 (cmdsDo l cs).2 (cmdsDo l cs).2 (by omega) (by omega)) rfl ?_ | refine CCallK_plain e49 (c49 (cmdsDo l cs).2 (cmdsDo l cs).2 (by omega) (by omega)) rfl rfl ?_ (fun _ => by simp) | refine Or.inl (CCallK_plain e49 (c49 (cmdsDo l cs).2 (cmdsDo l cs).2 (by omega) (by omega)) rfl rfl ?_ (fun _ => by simp))
  simp (maxSteps := 2000000) only [go_sem, ↓reduceIte, reduceCtorEq, Nat.reduceAdd, Nat.reduceMul, Nat.reduceSub, Nat.reduceLT, Nat.reduceLeDiff, Nat.reduceEqDiff, Int.reduceToNat, Int.reduceLT, Int.reduceLE, Int.reduceNeg, hk]
  repeat ((with_reducible show _ = true ∧ _); refine ⟨by kernel_rfl, ?_⟩)
  refine CallK_os [6] e27 (by simp [osOk, St.obj, find]) (c27 (cmdsDo l cs).1 1 (by omega) (by omega)) rfl ?_
  simp (maxSteps := 2000000) only [go_sem, ↓reduceIte, reduceCtorEq, Nat.reduceAdd, Nat.reduceMul, Nat.reduceSub, Nat.reduceLT, Nat.reduceLeDiff, Nat.reduceEqDiff, Int.reduceToNat, Int.reduceLT, Int.reduceLE, Int.reduceNeg, hk]
  repeat ((with_reducible show _ = true ∧ _); refine ⟨by kernel_rfl, ?_⟩)
  refine CallK_os [7] e52 (by simp [osOk, St.obj, find]) (c52 (cmdsDo l cs).2 (1 + 2 * (((cmdsDo l cs).1).length : Int)) (by omega) (by omega)) rfl ?_
  simp (maxSteps := 2000000) only [go_sem, ↓reduceIte, reduceCtorEq, Nat.reduceAdd, Nat.reduceMul, Nat.reduceSub, Nat.reduceLT, Nat.reduceLeDiff, Nat.reduceEqDiff, Int.reduceToNat, Int.reduceLT, Int.reduceLE, Int.reduceNeg, hk]
  repeat ((with_reducible show _ = true ∧ _); refine ⟨by kernel_rfl, ?_⟩)
  first
    | refine CallK_pure e28 (c28 ((cmdsDo l cs).1).length 1 (by omega) (by omega)) rfl ?_
    | refine CCallK_plain e28 (c28 ((cmdsDo l cs).1).length 1 (by omega) (by omega)) rfl rfl ?_ (fun _ => by simp)
    | refine Or.inl (CCallK_plain e28 (c28 ((cmdsDo l cs).1).length 1 (by omega) (by omega)) rfl rfl ?_ (fun _ => by simp))
    | refine Or.inr ⟨by kernel_rfl, EffK_pure e28 (c28 ((cmdsDo l cs).1).length 1 (by omega) (by omega)) rfl ?_⟩
    | refine Or.inr (EffK_pure e28 (c28 ((cmdsDo l cs).1).length 1 (by omega) (by omega)) rfl ?_)
  simp (maxSteps := 2000000) only [go_sem, ↓reduceIte, reduceCtorEq, Nat.reduceAdd, Nat.reduceMul, Nat.reduceSub, Nat.reduceLT, Nat.reduceLeDiff, Nat.reduceEqDiff, Int.reduceToNat, Int.reduceLT, Int.reduceLE, Int.reduceNeg, hk]
  repeat ((with_reducible show _ = true ∧ _); refine ⟨by kernel_rfl, ?_⟩)
  have hq1 : decide ((1 + 2 * (((cmdsDo l cs).1).length : Int)) < 0) = false := by simp only [decide_eq_false_iff_not]; omega
  simp (maxSteps := 2000000) only [go_sem, ↓reduceIte, reduceCtorEq, Nat.reduceAdd, Nat.reduceMul, Nat.reduceSub, Nat.reduceLT, Nat.reduceLeDiff, Nat.reduceEqDiff, Int.reduceToNat, Int.reduceLT, Int.reduceLE, Int.reduceNeg, hk, hq1]
  repeat ((with_reducible show _ = true ∧ _); refine ⟨by kernel_rfl, ?_⟩)
  first
    | refine CallK_pure e53 (c53 ((cmdsDo l cs).2).length (1 + 2 * (((cmdsDo l cs).1).length : Int)) (by omega) (by omega)) rfl ?_
    | refine CCallK_plain e53 (c53 ((cmdsDo l cs).2).length (1 + 2 * (((cmdsDo l cs).1).length : Int)) (by omega) (by omega)) rfl rfl ?_ (fun _ => by simp)
    | refine Or.inl (CCallK_plain e53 (c53 ((cmdsDo l cs).2).length (1 + 2 * (((cmdsDo l cs).1).length : Int)) (by omega) (by omega)) rfl rfl ?_ (fun _ => by simp))
    | refine Or.inr ⟨by kernel_rfl, EffK_pure e53 (c53 ((cmdsDo l cs).2).length (1 + 2 * (((cmdsDo l cs).1).length : Int)) (by omega) (by omega)) rfl ?_⟩
    | refine Or.inr (EffK_pure e53 (c53 ((cmdsDo l cs).2).length (1 + 2 * (((cmdsDo l cs).1).length : Int)) (by omega) (by omega)) rfl ?_)
  simp (maxSteps := 2000000) only [go_sem, ↓reduceIte, reduceCtorEq, Nat.reduceAdd, Nat.reduceMul, Nat.reduceSub, Nat.reduceLT, Nat.reduceLeDiff, Nat.reduceEqDiff, Int.reduceToNat, Int.reduceLT, Int.reduceLE, Int.reduceNeg, hk, hq1]
  repeat ((with_reducible show _ = true ∧ _); refine ⟨by kernel_rfl, ?_⟩)
  have hq2 : decide (((1 + 2 * (((cmdsDo l cs).1).length : Int)) + 2 * (((cmdsDo l cs).2).length : Int)) < 0) = false := by simp only [decide_eq_false_iff_not]; omega
  simp (maxSteps := 2000000) only [go_sem, ↓reduceIte, reduceCtorEq, Nat.reduceAdd, Nat.reduceMul, Nat.reduceSub, Nat.reduceLT, Nat.reduceLeDiff, Nat.reduceEqDiff, Int.reduceToNat, Int.reduceLT, Int.reduceLE, Int.reduceNeg, hk, hq1, hq2]
  repeat ((with_reducible show _ = true ∧ _); refine ⟨by kernel_rfl, ?_⟩)
  first
    | refine CallK_pure e24 (c24 l hsl) rfl ?_
    | refine Or.inr ⟨by kernel_rfl, EffK_pure e24 (c24 l hsl) rfl ?_⟩
    | refine Or.inr (EffK_pure e24 (c24 l hsl) rfl ?_)
  simp (maxSteps := 2000000) only [go_sem, ↓reduceIte, reduceCtorEq, Nat.reduceAdd, Nat.reduceMul, Nat.reduceSub, Nat.reduceLT, Nat.reduceLeDiff, Nat.reduceEqDiff, Int.reduceToNat, Int.reduceLT, Int.reduceLE, Int.reduceNeg, hk, hq1, hq2]
  repeat ((with_reducible show _ = true ∧ _); refine ⟨by kernel_rfl, ?_⟩)
  first
    | refine CallK_pure e47 (c47 cs hscs) rfl ?_
    | refine Or.inr ⟨by kernel_rfl, EffK_pure e47 (c47 cs hscs) rfl ?_⟩
    | refine Or.inr (EffK_pure e47 (c47 cs hscs) rfl ?_)
  simp (maxSteps := 2000000) only [go_sem, ↓reduceIte, reduceCtorEq, Nat.reduceAdd, Nat.reduceMul, Nat.reduceSub, Nat.reduceLT, Nat.reduceLeDiff, Nat.reduceEqDiff, Int.reduceToNat, Int.reduceLT, Int.reduceLE, Int.reduceNeg, hk, hq1, hq2]
  repeat ((with_reducible show _ = true ∧ _); refine ⟨by kernel_rfl, ?_⟩)
  first
    | refine CallK_pure e48 (c48 l (by omega) cs (by omega)) rfl ?_
    | refine Or.inr ⟨by kernel_rfl, EffK_pure e48 (c48 l (by omega) cs (by omega)) rfl ?_⟩
    | refine Or.inr (EffK_pure e48 (c48 l (by omega) cs (by omega)) rfl ?_)
  simp (maxSteps := 2000000) only [go_sem, ↓reduceIte, reduceCtorEq, Nat.reduceAdd, Nat.reduceMul, Nat.reduceSub, Nat.reduceLT, Nat.reduceLeDiff, Nat.reduceEqDiff, Int.reduceToNat, Int.reduceLT, Int.reduceLE, Int.reduceNeg, hk, hq1, hq2]
  repeat ((with_reducible show _ = true ∧ _); refine ⟨by kernel_rfl, ?_⟩)
  first | refine CallK_pure e26 (c26 (cmdsDo l cs).1 (cmdsDo l cs).1 (by omega) (by omega)) rfl ?_ | refine CCallK_plain e26 (c26 (cmdsDo l cs).1 (cmdsDo l cs).1 (by omega) (by omega)) rfl rfl ?_ (fun _ => by simp) | refine Or.inl (CCallK_plain e26 (c26 (cmdsDo l cs).1 (cmdsDo l cs).1 (by omega) (by omega)) rfl rfl ?_ (fun _ => by simp))
  simp (maxSteps := 2000000) only [go_sem, ↓reduceIte, reduceCtorEq, Nat.reduceAdd, Nat.reduceMul, Nat.reduceSub, Nat.reduceLT, Nat.reduceLeDiff, Nat.reduceEqDiff, Int.reduceToNat, Int.reduceLT, Int.reduceLE, Int.reduceNeg, hk, hq1, hq2]
  repeat ((with_reducible show _ = true ∧ _); refine ⟨by kernel_rfl, ?_⟩)
  first | refine CallK_pure e49 (c49 (cmdsDo l cs).2 (cmdsDo l cs).2 (by omega) (by omega)) rfl ?_ | refine CCallK_plain e49 (c49 (cmdsDo l cs).2 (cmdsDo l cs).2 (by omega) (by omega)) rfl rfl ?_ (fun _ => by simp) | refine Or.inl (CCallK_plain e49 (c49 (cmdsDo l cs).2 (cmdsDo l cs).2 (by omega) (by omega)) rfl rfl ?_ (fun _ => by simp))
  simp (maxSteps := 2000000) only [go_sem, ↓reduceIte, reduceCtorEq, Nat.reduceAdd, Nat.reduceMul, Nat.reduceSub, Nat.reduceLT, Nat.reduceLeDiff, Nat.reduceEqDiff, Int.reduceToNat, Int.reduceLT, Int.reduceLE, Int.reduceNeg, hk, hq1, hq2]
  repeat ((with_reducible show _ = true ∧ _); refine ⟨by kernel_rfl, ?_⟩)
  first
    | refine CallK_pure e28 (c28 ((cmdsDo l cs).1).length 1 (by omega) (by omega)) rfl ?_
    | refine CCallK_plain e28 (c28 ((cmdsDo l cs).1).length 1 (by omega) (by omega)) rfl rfl ?_ (fun _ => by simp)
    | refine Or.inl (CCallK_plain e28 (c28 ((cmdsDo l cs).1).length 1 (by omega) (by omega)) rfl rfl ?_ (fun _ => by simp))
    | refine Or.inr ⟨by kernel_rfl, EffK_pure e28 (c28 ((cmdsDo l cs).1).length 1 (by omega) (by omega)) rfl ?_⟩
    | refine Or.inr (EffK_pure e28 (c28 ((cmdsDo l cs).1).length 1 (by omega) (by omega)) rfl ?_)
  simp (maxSteps := 2000000) only [go_sem, ↓reduceIte, reduceCtorEq, Nat.reduceAdd, Nat.reduceMul, Nat.reduceSub, Nat.reduceLT, Nat.reduceLeDiff, Nat.reduceEqDiff, Int.reduceToNat, Int.reduceLT, Int.reduceLE, Int.reduceNeg, hk, hq1, hq2]
  repeat ((with_reducible show _ = true ∧ _); refine ⟨by kernel_rfl, ?_⟩)
  first
    | refine CallK_pure e53 (c53 ((cmdsDo l cs).2).length (1 + 2 * (((cmdsDo l cs).1).length : Int)) (by omega) (by omega)) rfl ?_
    | refine CCallK_plain e53 (c53 ((cmdsDo l cs).2).length (1 + 2 * (((cmdsDo l cs).1).length : Int)) (by omega) (by omega)) rfl rfl ?_ (fun _ => by simp)
    | refine Or.inl (CCallK_plain e53 (c53 ((cmdsDo l cs).2).length (1 + 2 * (((cmdsDo l cs).1).length : Int)) (by omega) (by omega)) rfl rfl ?_ (fun _ => by simp))
    | refine Or.inr ⟨by kernel_rfl, EffK_pure e53 (c53 ((cmdsDo l cs).2).length (1 + 2 * (((cmdsDo l cs).1).length : Int)) (by omega) (by omega)) rfl ?_⟩
    | refine Or.inr (EffK_pure e53 (c53 ((cmdsDo l cs).2).length (1 + 2 * (((cmdsDo l cs).1).length : Int)) (by omega) (by omega)) rfl ?_)
  simp (maxSteps := 2000000) only [go_sem, ↓reduceIte, reduceCtorEq, Nat.reduceAdd, Nat.reduceMul, Nat.reduceSub, Nat.reduceLT, Nat.reduceLeDiff, Nat.reduceEqDiff, Int.reduceToNat, Int.reduceLT, Int.reduceLE, Int.reduceNeg, hk, hq1, hq2]
  repeat ((with_reducible show _ = true ∧ _); refine ⟨by kernel_rfl, ?_⟩)
  refine Fin.intro Try.results9 [] (by simp (maxSteps := 2000000) only [go_sem, ↓reduceIte, reduceCtorEq, Nat.reduceAdd, Nat.reduceMul, Nat.reduceSub, Nat.reduceLT, Nat.reduceLeDiff, Nat.reduceEqDiff, Int.reduceToNat, Int.reduceLT, Int.reduceLE, Int.reduceNeg, resA]; rfl) ?_ ?_ (by simp) rfl (by simp) ?_ <;> try trivial
theorem law (dss : List (List D)) (h : WTAll Try.prog 8 Try.f9.params.toList dss) : Ctr Try.prog 9 (argAVs Try.prog Try.f9.params.toList dss) [] (.one (.dat (.bool true))) [] := by
  rw [Try.params9] at *
  simp only [WTAll, WT, WTs, List.map_cons, List.map_nil, List.toList_toArray, Try.underlying3, Try.underlying31, Try.underlying56, Try.underlying65, Try.underlying109, tc_3, tc_31, tc_56, tc_65, tc_109] at h
  obtain ⟨_, _, rfl, ⟨a0, rfl, la0, ha0⟩, ⟨_, _, rfl, ⟨a1, rfl, la1, ha1⟩, rfl⟩⟩ := h
  obtain ⟨l0, rfl, w0⟩ := decRows (enc := encKV) (q := KV.wf) (fun r h => by obtain ⟨_, _, rfl, ⟨xKey, rfl, hxKey⟩, ⟨_, _, rfl, ⟨xVal, rfl, hxVal⟩, rfl⟩⟩ := h; exact ⟨⟨xKey, xVal⟩, rfl, hxKey, hxVal, trivial⟩) ha0
  obtain ⟨l1, rfl, w1⟩ := decRows (enc := encCmd) (q := Cmd.wf) (fun r h => by obtain ⟨_, _, rfl, ⟨xKind, rfl, hxKind⟩, ⟨_, _, rfl, ⟨xKey, rfl, hxKey⟩, ⟨_, _, rfl, ⟨xVal, rfl, hxVal⟩, rfl⟩⟩⟩ := h; exact ⟨⟨xKind, xKey, xVal⟩, rfl, hxKind, hxKey, hxVal, trivial⟩) ha1
  simp only [argAVs, argAV, List.toList_toArray, Try.underlying3, Try.underlying31, Try.underlying56, Try.underlying65, Try.underlying109, List.map_cons, List.map_nil, List.cons_append, List.nil_append, List.append_nil, List.headD_cons]
  exact c9 l0 (by simpa using la0) l1 (by simpa using la1)

theorem own : ownKnob Try.prog.godebug = none := by kernel_rfl

set_option maxRecDepth 100000 in
theorem lifted (os : Os) (started : os.Started) (H : Type) (enc : TypeId × Value → H) :
    ReturnsInHanded {} Try.checked os 9 .any (Rows.fnExactCmdsDoSpec.pre6 enc Try.prog Try.f9 Rows.fnExactCmdsDoRow.domain false) (Rows.fnExactCmdsDoSpec.post enc Try.prog Try.f9 false true false false) := by
  refine returnsInHanded_of_change (C := Try.checked) own started (by kernel_rfl) Try.func9
    (ChangeSpec.witness6 (enc := enc) (C := Try.checked) false ⟨#[], #[.slice none 0 0, .slice none 0 0], []⟩ 8 (by kernel_rfl) (by kernel_rfl) (by kernel_rfl) (by kernel_rfl)) ?_
  intro W base args ds gs before hval0 hW hcnd _
  have hW' := hW
  obtain ⟨p, q, hA0, hV, rfl, hfz, hnd⟩ := hW'
  have hA : DataW.TrodAll enc Try.prog W 0 (fun _ => true) true Try.f9.params.toList args.toList ds p := hA0
  obtain ⟨dss, h1, h2⟩ := args_rep (n := 8) (by kernel_rfl) (fun j t v hj hv => hval0 j t v (by simpa using hj) (by simpa using hv)) hA
  have hs : Rows.fnExactCmdsDoSpec.fn H (ds ++ gs) = { results := [.lit (.bool true)], args := ds, vars := [] } := by
    obtain ⟨rfl, rfl⟩ := trodVars_none hV
    rw [Try.params9] at hA
    obtain ⟨v0, vs0, d0, ds0, p0, q0, _, rfl, _, _, r0⟩ := trodAll_cons hA
    obtain ⟨v1, vs1, d1, ds1, p1, q1, _, rfl, _, _, r1⟩ := trodAll_cons r0
    obtain ⟨_, rfl, _⟩ := trodAll_nil r1
    rfl
  have hc := law_calls (law dss h1) h2
  rw [Array.toArray_toList] at hc
  refine hc.mono fun e W' ⟨he, hb⟩ => ?_
  subst he
  exact ⟨_, rfl, law_post (by kernel_rfl) (by kernel_rfl) rfl hW hs rfl Try.underlying4 hb⟩

theorem over : Rows.fnExactCmdsDoRow.holds Try.pinned (OpenSpec.ofChange Rows.fnExactCmdsDoSpec) :=
  OpenClaim.holds_of_wide 9 Try.f9 rfl rfl rfl rfl rfl rfl rfl ⟨rfl, rfl, rfl, rfl, rfl⟩ rfl rfl rfl rfl rfl (by kernel_rfl) Try.func9 (by kernel_rfl)
    (of_decide_eq_true (by kernel_rfl)) (by unfold Func.isWrapper; first | (rw [if_pos (by decide +kernel)]; kernel_rfl) | (rw [if_neg (by decide +kernel)]; exact ⟨rfl, rfl⟩))
    (fun os started H enc _ => lifted os started H enc)

theorem proved : Rows.FnExactCmdsDoSaid :=
  over
end Go.Proofs.Ytkfpkemibnmkoaa.fnExactCmdsDo
