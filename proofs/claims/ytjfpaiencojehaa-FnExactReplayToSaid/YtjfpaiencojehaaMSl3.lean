/- Contracts: Sl3. -/
import Derived.Test.YtjfpaiencojehaaRows
import Derived.Test.YtjfpaiencojehaaTy
import Derived.Test.YtjfpaiencojehaaAbsTac
import Derived.Test.YtjfpaiencojehaaAbsData
import Derived.Test.YtjfpaiencojehaaMFam2
import Derived.Test.YtjfpaiencojehaaMSl2
import Derived.WalkKit
import Derived.ProofKit
import Derived.OpenShut
namespace Go.Proofs.Ytjfpaiencojehaa.Mod
open Go.Abs Go.Proofs.Ytjfpaiencojehaa.Ty Go.ChangeShapes Go.WideShapes Go.ChangeAt Go.RowKit
set_option linter.unusedSimpArgs false
set_option linter.unusedVariables false
set_option maxHeartbeats 8000000
set_option maxRecDepth 100000
theorem c65 (l l' : List Res) (hl : l.length ≤ maxLen) (hl' : l'.length ≤ maxLen) : Ctr Try.prog 65 [.one (.dat (.sl 2 (l.map encRes))), .one (.dat (.sl 2 (l'.map encRes)))] [] (.one (.dat (.bool (decide (l = l'))))) [] := by
  refine Ctr.bd mixed Try.func65 rfl ?_
  refine evl ?_
  refine ⟨fun h => ?_, fun h => ?_⟩
  · have hne : l.length ≠ l'.length := by simp at h; omega
    refine Fin.nt Try.results65 [] ?_ ?_ ?_ <;> try trivial
    first | exact True.intro | (refine rsl ?_; try exact True.intro)
    symm; rw [decide_eq_false_iff_not]
    intro e; exact hne (by rw [e])
  have hlen : l.length = l'.length := by simp at h; omega
  refine LoopK_intro (fun n s => ∃ i : Nat, i ≤ l.length ∧ n = l.length - i ∧ l.take i = l'.take i ∧ s = mkSt [(13, .one (.dat (.int .i64 i))), (12, .one (.dat (.int .i64 l.length))), (1, .one (.dat (.sl 2 (l'.map encRes)))), (0, .one (.dat (.sl 2 (l.map encRes))))] []) l.length _
    (Ent.wk []) ⟨0, by omega, by omega, rfl, rfl⟩ ?_
  rintro n s ⟨i, hi, rfl, ht, rfl⟩ K hK
  refine evl ?_
  refine ⟨fun h => ?_, fun h => ?_⟩
  · have hlt : i < l.length := by simpa using h
    have hlt' : i < l'.length := by omega
    simp only [getD_map hlt, getD_map hlt', encRes, List.map_cons, List.map_nil, List.take_succ_cons, List.take_zero]
    simp (maxSteps := 2000000) only [go_sem, ↓reduceIte, reduceCtorEq, Nat.reduceAdd, Nat.reduceMul, Nat.reduceSub, Nat.reduceLT, Nat.reduceLeDiff, Nat.reduceEqDiff, Int.reduceToNat, Int.reduceLT, Int.reduceLE, Int.reduceNeg, wrap_succ hlt hl]
    repeat' first
      | with_reducible intro h
      | ((with_reducible show _ ∧ _); apply And.intro)
    all_goals try (first | assumption | exact True.intro | omega | (clear hK; simp_all; done))
    · apply hK
      refine evl ?_
      refine Fin.nt Try.results65 [] ?_ ?_ ?_ <;> try trivial
      first | exact True.intro | (refine rsl ?_; try exact True.intro)
      symm; rw [decide_eq_false_iff_not]
      rintro rfl; simp at h
    · apply hK
      have he : l[i] = l'[i] := by rw [Res.eq_iff]; simpa using h
      refine ⟨l.length - (i + 1), _, by omega, Ent.wk [], i + 1, by omega, rfl, ?_, rfl⟩
      rw [List.take_succ_eq_append_getElem hlt, List.take_succ_eq_append_getElem hlt', ht, he]
  · have hge : i = l.length := by simp at h; omega
    subst hge
    apply hK
    refine evl ?_
    refine Fin.nt Try.results65 [] ?_ ?_ ?_ <;> try trivial
    first | exact True.intro | (refine rsl ?_; try exact True.intro)
    symm; rw [decide_eq_true_iff]
    rw [List.take_of_length_le (Nat.le_refl _), List.take_of_length_le (by omega)] at ht
    exact ht
theorem c59 (l l' : List Res) (hl : l.length ≤ maxLen) (hl' : l'.length ≤ maxLen) : Ctr Try.prog 59 [.one (.dat (.sl 2 (l.map encRes))), .one (.dat (.sl 2 (l'.map encRes)))] [] (.one (.dat (.bool (decide (l = l'))))) [] := by
  refine Ctr.bd mixed Try.func59 rfl ?_
  refine evl ?_
  refine ⟨fun h => ?_, fun h => ?_⟩
  · have hne : l.length ≠ l'.length := by simp at h; omega
    refine Fin.nt Try.results59 [] ?_ ?_ ?_ <;> try trivial
    first | exact True.intro | (refine rsl ?_; try exact True.intro)
    symm; rw [decide_eq_false_iff_not]
    intro e; exact hne (by rw [e])
  have hlen : l.length = l'.length := by simp at h; omega
  refine LoopK_intro (fun n s => ∃ i : Nat, i ≤ l.length ∧ n = l.length - i ∧ l.take i = l'.take i ∧ s = mkSt [(5, .one (.dat (.int .i64 i))), (1, .one (.dat (.sl 2 (l'.map encRes)))), (0, .one (.dat (.sl 2 (l.map encRes))))] []) l.length _
    (Ent.wk []) ⟨0, by omega, by omega, rfl, rfl⟩ ?_
  rintro n s ⟨i, hi, rfl, ht, rfl⟩ K hK
  refine evl ?_
  refine ⟨fun h => ?_, fun h => ?_⟩
  · have hlt : i < l.length := by simpa using h
    have hlt' : i < l'.length := by omega
    simp only [getD_map hlt, getD_map hlt', encRes, List.map_cons, List.map_nil, List.take_succ_cons, List.take_zero]
    simp (maxSteps := 2000000) only [go_sem, ↓reduceIte, reduceCtorEq, Nat.reduceAdd, Nat.reduceMul, Nat.reduceSub, Nat.reduceLT, Nat.reduceLeDiff, Nat.reduceEqDiff, Int.reduceToNat, Int.reduceLT, Int.reduceLE, Int.reduceNeg, wrap_succ hlt hl]
    repeat' first
      | with_reducible intro h
      | ((with_reducible show _ ∧ _); apply And.intro)
    all_goals try (first | assumption | exact True.intro | omega | (clear hK; simp_all; done))
    · apply hK
      refine evl ?_
      refine Fin.nt Try.results59 [] ?_ ?_ ?_ <;> try trivial
      first | exact True.intro | (refine rsl ?_; try exact True.intro)
      symm; rw [decide_eq_false_iff_not]
      rintro rfl; simp at h
    · apply hK
      have he : l[i] = l'[i] := by rw [Res.eq_iff]; simpa using h
      refine ⟨l.length - (i + 1), _, by omega, Ent.wk [], i + 1, by omega, rfl, ?_, rfl⟩
      rw [List.take_succ_eq_append_getElem hlt, List.take_succ_eq_append_getElem hlt', ht, he]
  · have hge : i = l.length := by simp at h; omega
    subst hge
    apply hK
    refine evl ?_
    refine Fin.nt Try.results59 [] ?_ ?_ ?_ <;> try trivial
    first | exact True.intro | (refine rsl ?_; try exact True.intro)
    symm; rw [decide_eq_true_iff]
    rw [List.take_of_length_le (Nat.le_refl _), List.take_of_length_le (by omega)] at ht
    exact ht
end Go.Proofs.Ytjfpaiencojehaa.Mod
