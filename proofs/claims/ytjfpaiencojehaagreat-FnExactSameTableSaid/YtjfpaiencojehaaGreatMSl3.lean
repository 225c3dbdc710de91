/- Contracts: Sl3. -/
import Derived.Test.YtjfpaiencojehaaGreatRows
import Derived.Test.YtjfpaiencojehaaGreatTy
import Derived.Test.YtjfpaiencojehaaGreatAbsTac
import Derived.Test.YtjfpaiencojehaaGreatAbsData
import Derived.Test.YtjfpaiencojehaaGreatMFam2
import Derived.Test.YtjfpaiencojehaaGreatMSl2
import Derived.WalkKit
import Derived.ProofKit
import Derived.OpenShut
namespace Go.Proofs.YtjfpaiencojehaaGreat.Mod
open Go.Abs Go.Proofs.YtjfpaiencojehaaGreat.Ty Go.ChangeShapes Go.WideShapes Go.ChangeAt Go.RowKit
set_option linter.unusedSimpArgs false
set_option linter.unusedVariables false
set_option maxHeartbeats 8000000
set_option maxRecDepth 100000
theorem c83 (l l' : List Int) (hl : l.length ≤ maxLen) (hl' : l'.length ≤ maxLen) : Ctr Tryz.prog 83 [.one (.dat (.sl 1 (l.map encI))), .one (.dat (.sl 1 (l'.map encI)))] [] (.one (.dat (.bool (decide (l = l'))))) [] := by
  refine Ctr.bd mixed Tryz.func83 rfl ?_
  refine evl ?_
  refine ⟨fun h => ?_, fun h => ?_⟩
  · have hne : l.length ≠ l'.length := by simp at h; omega
    refine Fin.nt Tryz.results83 [] ?_ ?_ ?_ <;> try trivial
    first | exact True.intro | (refine rsl ?_; try exact True.intro)
    symm; rw [decide_eq_false_iff_not]
    intro e; exact hne (by rw [e])
  have hlen : l.length = l'.length := by simp at h; omega
  refine LoopK_intro (fun n s => ∃ i : Nat, i ≤ l.length ∧ n = l.length - i ∧ l.take i = l'.take i ∧ s = mkSt [(13, .one (.dat (.int .i64 i))), (12, .one (.dat (.int .i64 l.length))), (1, .one (.dat (.sl 1 (l'.map encI)))), (0, .one (.dat (.sl 1 (l.map encI))))] []) l.length _
    (Ent.wk []) ⟨0, by omega, by omega, rfl, rfl⟩ ?_
  rintro n s ⟨i, hi, rfl, ht, rfl⟩ K hK
  refine evl ?_
  refine ⟨fun h => ?_, fun h => ?_⟩
  · have hlt : i < l.length := by simpa using h
    have hlt' : i < l'.length := by omega
    simp only [getD_map hlt, getD_map hlt', encI, List.map_cons, List.map_nil, List.take_succ_cons, List.take_zero]
    simp (maxSteps := 2000000) only [go_sem, ↓reduceIte, reduceCtorEq, Nat.reduceAdd, Nat.reduceMul, Nat.reduceSub, Nat.reduceLT, Nat.reduceLeDiff, Nat.reduceEqDiff, Int.reduceToNat, Int.reduceLT, Int.reduceLE, Int.reduceNeg, wrap_succ hlt hl]
    repeat' first
      | with_reducible intro h
      | ((with_reducible show _ ∧ _); apply And.intro)
    all_goals try (first | assumption | exact True.intro | omega | (clear hK; simp_all; done))
    · apply hK
      refine evl ?_
      refine Fin.nt Tryz.results83 [] ?_ ?_ ?_ <;> try trivial
      first | exact True.intro | (refine rsl ?_; try exact True.intro)
      symm; rw [decide_eq_false_iff_not]
      rintro rfl; simp at h
    · apply hK
      have he : l[i] = l'[i] := by simpa using h
      refine ⟨l.length - (i + 1), _, by omega, Ent.wk [], i + 1, by omega, rfl, ?_, rfl⟩
      rw [List.take_succ_eq_append_getElem hlt, List.take_succ_eq_append_getElem hlt', ht, he]
  · have hge : i = l.length := by simp at h; omega
    subst hge
    apply hK
    refine evl ?_
    refine Fin.nt Tryz.results83 [] ?_ ?_ ?_ <;> try trivial
    first | exact True.intro | (refine rsl ?_; try exact True.intro)
    symm; rw [decide_eq_true_iff]
    rw [List.take_of_length_le (Nat.le_refl _), List.take_of_length_le (by omega)] at ht
    exact ht
theorem c45 (l l' : List Cmd) (hl : l.length ≤ maxLen) (hl' : l'.length ≤ maxLen) : Ctr Tryz.prog 45 [.one (.dat (.sl 3 (l.map encCmd))), .one (.dat (.sl 3 (l'.map encCmd)))] [] (.one (.dat (.bool (decide (l = l'))))) [] := by
  refine Ctr.bd mixed Tryz.func45 rfl ?_
  refine evl ?_
  refine ⟨fun h => ?_, fun h => ?_⟩
  · have hne : l.length ≠ l'.length := by simp at h; omega
    refine Fin.nt Tryz.results45 [] ?_ ?_ ?_ <;> try trivial
    first | exact True.intro | (refine rsl ?_; try exact True.intro)
    symm; rw [decide_eq_false_iff_not]
    intro e; exact hne (by rw [e])
  have hlen : l.length = l'.length := by simp at h; omega
  refine LoopK_intro (fun n s => ∃ i : Nat, i ≤ l.length ∧ n = l.length - i ∧ l.take i = l'.take i ∧ s = mkSt [(13, .one (.dat (.int .i64 i))), (12, .one (.dat (.int .i64 l.length))), (1, .one (.dat (.sl 3 (l'.map encCmd)))), (0, .one (.dat (.sl 3 (l.map encCmd))))] []) l.length _
    (Ent.wk []) ⟨0, by omega, by omega, rfl, rfl⟩ ?_
  rintro n s ⟨i, hi, rfl, ht, rfl⟩ K hK
  refine evl ?_
  refine ⟨fun h => ?_, fun h => ?_⟩
  · have hlt : i < l.length := by simpa using h
    have hlt' : i < l'.length := by omega
    simp only [getD_map hlt, getD_map hlt', encCmd, List.map_cons, List.map_nil, List.take_succ_cons, List.take_zero]
    simp (maxSteps := 2000000) only [go_sem, ↓reduceIte, reduceCtorEq, Nat.reduceAdd, Nat.reduceMul, Nat.reduceSub, Nat.reduceLT, Nat.reduceLeDiff, Nat.reduceEqDiff, Int.reduceToNat, Int.reduceLT, Int.reduceLE, Int.reduceNeg, wrap_succ hlt hl]
    repeat' first
      | with_reducible intro h
      | ((with_reducible show _ ∧ _); apply And.intro)
    all_goals try (first | assumption | exact True.intro | omega | (clear hK; simp_all; done))
    · apply hK
      refine evl ?_
      refine Fin.nt Tryz.results45 [] ?_ ?_ ?_ <;> try trivial
      first | exact True.intro | (refine rsl ?_; try exact True.intro)
      symm; rw [decide_eq_false_iff_not]
      rintro rfl; simp at h
    · apply hK
      have he : l[i] = l'[i] := by rw [Cmd.eq_iff]; simpa using h
      refine ⟨l.length - (i + 1), _, by omega, Ent.wk [], i + 1, by omega, rfl, ?_, rfl⟩
      rw [List.take_succ_eq_append_getElem hlt, List.take_succ_eq_append_getElem hlt', ht, he]
  · have hge : i = l.length := by simp at h; omega
    subst hge
    apply hK
    refine evl ?_
    refine Fin.nt Tryz.results45 [] ?_ ?_ ?_ <;> try trivial
    first | exact True.intro | (refine rsl ?_; try exact True.intro)
    symm; rw [decide_eq_true_iff]
    rw [List.take_of_length_le (Nat.le_refl _), List.take_of_length_le (by omega)] at ht
    exact ht
theorem c46 (l l' : List Res) (hl : l.length ≤ maxLen) (hl' : l'.length ≤ maxLen) : Ctr Tryz.prog 46 [.one (.dat (.sl 2 (l.map encRes))), .one (.dat (.sl 2 (l'.map encRes)))] [] (.one (.dat (.bool (decide (l = l'))))) [] := by
  refine Ctr.bd mixed Tryz.func46 rfl ?_
  refine evl ?_
  refine ⟨fun h => ?_, fun h => ?_⟩
  · have hne : l.length ≠ l'.length := by simp at h; omega
    refine Fin.nt Tryz.results46 [] ?_ ?_ ?_ <;> try trivial
    first | exact True.intro | (refine rsl ?_; try exact True.intro)
    symm; rw [decide_eq_false_iff_not]
    intro e; exact hne (by rw [e])
  have hlen : l.length = l'.length := by simp at h; omega
  refine LoopK_intro (fun n s => ∃ i : Nat, i ≤ l.length ∧ n = l.length - i ∧ l.take i = l'.take i ∧ s = mkSt [(13, .one (.dat (.int .i64 i))), (12, .one (.dat (.int .i64 l.length))), (1, .one (.dat (.sl 2 (l'.map encRes)))), (0, .one (.dat (.sl 2 (l.map encRes))))] []) l.length _
    (Ent.wk []) ⟨0, by omega, by omega, rfl, rfl⟩ ?_
  rintro n s ⟨i, hi, rfl, ht, rfl⟩ K hK
  refine evl ?_
  refine ⟨fun h => ?_, fun h => ?_⟩
  · have hlt : i < l.length := by simpa using h
    have hlt' : i < l'.length := by omega
    simp only [getD_map hlt, getD_map hlt', encRes, List.map_cons, List.map_nil, List.take_succ_cons, List.take_zero]
    simp (maxSteps := 2000000) only [go_sem, ↓reduceIte, reduceCtorEq, Nat.reduceAdd, Nat.reduceMul, Nat.reduceSub, Nat.reduceLT, Nat.reduceLeDiff, Nat.reduceEqDiff, Int.reduceToNat, Int.reduceLT, Int.reduceLE, Int.reduceNeg, wrap_succ hlt hl]
    repeat' first
      | with_reducible intro h
      | ((with_reducible show _ ∧ _); apply And.intro)
    all_goals try (first | assumption | exact True.intro | omega | (clear hK; simp_all; done))
    · apply hK
      refine evl ?_
      refine Fin.nt Tryz.results46 [] ?_ ?_ ?_ <;> try trivial
      first | exact True.intro | (refine rsl ?_; try exact True.intro)
      symm; rw [decide_eq_false_iff_not]
      rintro rfl; simp at h
    · apply hK
      have he : l[i] = l'[i] := by rw [Res.eq_iff]; simpa using h
      refine ⟨l.length - (i + 1), _, by omega, Ent.wk [], i + 1, by omega, rfl, ?_, rfl⟩
      rw [List.take_succ_eq_append_getElem hlt, List.take_succ_eq_append_getElem hlt', ht, he]
  · have hge : i = l.length := by simp at h; omega
    subst hge
    apply hK
    refine evl ?_
    refine Fin.nt Tryz.results46 [] ?_ ?_ ?_ <;> try trivial
    first | exact True.intro | (refine rsl ?_; try exact True.intro)
    symm; rw [decide_eq_true_iff]
    rw [List.take_of_length_le (Nat.le_refl _), List.take_of_length_le (by omega)] at ht
    exact ht
theorem c84 (l l' : List Seen) (hl : l.length ≤ maxLen) (hl' : l'.length ≤ maxLen) : Ctr Tryz.prog 84 [.one (.dat (.sl 2 (l.map encSeen))), .one (.dat (.sl 2 (l'.map encSeen)))] [] (.one (.dat (.bool (decide (l = l'))))) [] := by
  refine Ctr.bd mixed Tryz.func84 rfl ?_
  refine evl ?_
  refine ⟨fun h => ?_, fun h => ?_⟩
  · have hne : l.length ≠ l'.length := by simp at h; omega
    refine Fin.nt Tryz.results84 [] ?_ ?_ ?_ <;> try trivial
    first | exact True.intro | (refine rsl ?_; try exact True.intro)
    symm; rw [decide_eq_false_iff_not]
    intro e; exact hne (by rw [e])
  have hlen : l.length = l'.length := by simp at h; omega
  refine LoopK_intro (fun n s => ∃ i : Nat, i ≤ l.length ∧ n = l.length - i ∧ l.take i = l'.take i ∧ s = mkSt [(13, .one (.dat (.int .i64 i))), (12, .one (.dat (.int .i64 l.length))), (1, .one (.dat (.sl 2 (l'.map encSeen)))), (0, .one (.dat (.sl 2 (l.map encSeen))))] []) l.length _
    (Ent.wk []) ⟨0, by omega, by omega, rfl, rfl⟩ ?_
  rintro n s ⟨i, hi, rfl, ht, rfl⟩ K hK
  refine evl ?_
  refine ⟨fun h => ?_, fun h => ?_⟩
  · have hlt : i < l.length := by simpa using h
    have hlt' : i < l'.length := by omega
    simp only [getD_map hlt, getD_map hlt', encSeen, List.map_cons, List.map_nil, List.take_succ_cons, List.take_zero]
    simp (maxSteps := 2000000) only [go_sem, ↓reduceIte, reduceCtorEq, Nat.reduceAdd, Nat.reduceMul, Nat.reduceSub, Nat.reduceLT, Nat.reduceLeDiff, Nat.reduceEqDiff, Int.reduceToNat, Int.reduceLT, Int.reduceLE, Int.reduceNeg, wrap_succ hlt hl]
    repeat' first
      | with_reducible intro h
      | ((with_reducible show _ ∧ _); apply And.intro)
    all_goals try (first | assumption | exact True.intro | omega | (clear hK; simp_all; done))
    · apply hK
      refine evl ?_
      refine Fin.nt Tryz.results84 [] ?_ ?_ ?_ <;> try trivial
      first | exact True.intro | (refine rsl ?_; try exact True.intro)
      symm; rw [decide_eq_false_iff_not]
      rintro rfl; simp at h
    · apply hK
      have he : l[i] = l'[i] := by rw [Seen.eq_iff]; simpa using h
      refine ⟨l.length - (i + 1), _, by omega, Ent.wk [], i + 1, by omega, rfl, ?_, rfl⟩
      rw [List.take_succ_eq_append_getElem hlt, List.take_succ_eq_append_getElem hlt', ht, he]
  · have hge : i = l.length := by simp at h; omega
    subst hge
    apply hK
    refine evl ?_
    refine Fin.nt Tryz.results84 [] ?_ ?_ ?_ <;> try trivial
    first | exact True.intro | (refine rsl ?_; try exact True.intro)
    symm; rw [decide_eq_true_iff]
    rw [List.take_of_length_le (Nat.le_refl _), List.take_of_length_le (by omega)] at ht
    exact ht
theorem c85 (l l' : List Write) (hl : l.length ≤ maxLen) (hl' : l'.length ≤ maxLen) : Ctr Tryz.prog 85 [.one (.dat (.sl 3 (l.map encWrite))), .one (.dat (.sl 3 (l'.map encWrite)))] [] (.one (.dat (.bool (decide (l = l'))))) [] := by
  refine Ctr.bd mixed Tryz.func85 rfl ?_
  refine evl ?_
  refine ⟨fun h => ?_, fun h => ?_⟩
  · have hne : l.length ≠ l'.length := by simp at h; omega
    refine Fin.nt Tryz.results85 [] ?_ ?_ ?_ <;> try trivial
    first | exact True.intro | (refine rsl ?_; try exact True.intro)
    symm; rw [decide_eq_false_iff_not]
    intro e; exact hne (by rw [e])
  have hlen : l.length = l'.length := by simp at h; omega
  refine LoopK_intro (fun n s => ∃ i : Nat, i ≤ l.length ∧ n = l.length - i ∧ l.take i = l'.take i ∧ s = mkSt [(13, .one (.dat (.int .i64 i))), (12, .one (.dat (.int .i64 l.length))), (1, .one (.dat (.sl 3 (l'.map encWrite)))), (0, .one (.dat (.sl 3 (l.map encWrite))))] []) l.length _
    (Ent.wk []) ⟨0, by omega, by omega, rfl, rfl⟩ ?_
  rintro n s ⟨i, hi, rfl, ht, rfl⟩ K hK
  refine evl ?_
  refine ⟨fun h => ?_, fun h => ?_⟩
  · have hlt : i < l.length := by simpa using h
    have hlt' : i < l'.length := by omega
    simp only [getD_map hlt, getD_map hlt', encWrite, List.map_cons, List.map_nil, List.take_succ_cons, List.take_zero]
    simp (maxSteps := 2000000) only [go_sem, ↓reduceIte, reduceCtorEq, Nat.reduceAdd, Nat.reduceMul, Nat.reduceSub, Nat.reduceLT, Nat.reduceLeDiff, Nat.reduceEqDiff, Int.reduceToNat, Int.reduceLT, Int.reduceLE, Int.reduceNeg, wrap_succ hlt hl]
    repeat' first
      | with_reducible intro h
      | ((with_reducible show _ ∧ _); apply And.intro)
    all_goals try (first | assumption | exact True.intro | omega | (clear hK; simp_all; done))
    · apply hK
      refine evl ?_
      refine Fin.nt Tryz.results85 [] ?_ ?_ ?_ <;> try trivial
      first | exact True.intro | (refine rsl ?_; try exact True.intro)
      symm; rw [decide_eq_false_iff_not]
      rintro rfl; simp at h
    · apply hK
      have he : l[i] = l'[i] := by rw [Write.eq_iff]; simpa using h
      refine ⟨l.length - (i + 1), _, by omega, Ent.wk [], i + 1, by omega, rfl, ?_, rfl⟩
      rw [List.take_succ_eq_append_getElem hlt, List.take_succ_eq_append_getElem hlt', ht, he]
  · have hge : i = l.length := by simp at h; omega
    subst hge
    apply hK
    refine evl ?_
    refine Fin.nt Tryz.results85 [] ?_ ?_ ?_ <;> try trivial
    first | exact True.intro | (refine rsl ?_; try exact True.intro)
    symm; rw [decide_eq_true_iff]
    rw [List.take_of_length_le (Nat.le_refl _), List.take_of_length_le (by omega)] at ht
    exact ht
theorem c36 (l l' : List Bkt) (hl : l.length ≤ maxLen) (hl' : l'.length ≤ maxLen) : Ctr Tryz.prog 36 [.one (.dat (.sl 3 (l.map encBkt))), .one (.dat (.sl 3 (l'.map encBkt)))] [] (.one (.dat (.bool (decide (l = l'))))) [] := by
  refine Ctr.bd mixed Tryz.func36 rfl ?_
  refine evl ?_
  refine ⟨fun h => ?_, fun h => ?_⟩
  · have hne : l.length ≠ l'.length := by simp at h; omega
    refine Fin.nt Tryz.results36 [] ?_ ?_ ?_ <;> try trivial
    first | exact True.intro | (refine rsl ?_; try exact True.intro)
    symm; rw [decide_eq_false_iff_not]
    intro e; exact hne (by rw [e])
  have hlen : l.length = l'.length := by simp at h; omega
  refine LoopK_intro (fun n s => ∃ i : Nat, i ≤ l.length ∧ n = l.length - i ∧ l.take i = l'.take i ∧ s = mkSt [(13, .one (.dat (.int .i64 i))), (12, .one (.dat (.int .i64 l.length))), (1, .one (.dat (.sl 3 (l'.map encBkt)))), (0, .one (.dat (.sl 3 (l.map encBkt))))] []) l.length _
    (Ent.wk []) ⟨0, by omega, by omega, rfl, rfl⟩ ?_
  rintro n s ⟨i, hi, rfl, ht, rfl⟩ K hK
  refine evl ?_
  refine ⟨fun h => ?_, fun h => ?_⟩
  · have hlt : i < l.length := by simpa using h
    have hlt' : i < l'.length := by omega
    simp only [getD_map hlt, getD_map hlt', encBkt, List.map_cons, List.map_nil, List.take_succ_cons, List.take_zero]
    simp (maxSteps := 2000000) only [go_sem, ↓reduceIte, reduceCtorEq, Nat.reduceAdd, Nat.reduceMul, Nat.reduceSub, Nat.reduceLT, Nat.reduceLeDiff, Nat.reduceEqDiff, Int.reduceToNat, Int.reduceLT, Int.reduceLE, Int.reduceNeg, wrap_succ hlt hl]
    repeat' first
      | with_reducible intro h
      | ((with_reducible show _ ∧ _); apply And.intro)
    all_goals try (first | assumption | exact True.intro | omega | (clear hK; simp_all; done))
    · apply hK
      refine evl ?_
      refine Fin.nt Tryz.results36 [] ?_ ?_ ?_ <;> try trivial
      first | exact True.intro | (refine rsl ?_; try exact True.intro)
      symm; rw [decide_eq_false_iff_not]
      rintro rfl; simp at h
    · apply hK
      have he : l[i] = l'[i] := by rw [Bkt.eq_iff]; simpa using h
      refine ⟨l.length - (i + 1), _, by omega, Ent.wk [], i + 1, by omega, rfl, ?_, rfl⟩
      rw [List.take_succ_eq_append_getElem hlt, List.take_succ_eq_append_getElem hlt', ht, he]
  · have hge : i = l.length := by simp at h; omega
    subst hge
    apply hK
    refine evl ?_
    refine Fin.nt Tryz.results36 [] ?_ ?_ ?_ <;> try trivial
    first | exact True.intro | (refine rsl ?_; try exact True.intro)
    symm; rw [decide_eq_true_iff]
    rw [List.take_of_length_le (Nat.le_refl _), List.take_of_length_le (by omega)] at ht
    exact ht
theorem c127 (l l' : List LRow) (hl : l.length ≤ maxLen) (hl' : l'.length ≤ maxLen) : Ctr Tryz.prog 127 [.one (.dat (.sl 2 (l.map encLRow))), .one (.dat (.sl 2 (l'.map encLRow)))] [] (.one (.dat (.bool (decide (l = l'))))) [] := by
  refine Ctr.bd mixed Tryz.func127 rfl ?_
  refine evl ?_
  refine ⟨fun h => ?_, fun h => ?_⟩
  · have hne : l.length ≠ l'.length := by simp at h; omega
    refine Fin.nt Tryz.results127 [] ?_ ?_ ?_ <;> try trivial
    first | exact True.intro | (refine rsl ?_; try exact True.intro)
    symm; rw [decide_eq_false_iff_not]
    intro e; exact hne (by rw [e])
  have hlen : l.length = l'.length := by simp at h; omega
  refine LoopK_intro (fun n s => ∃ i : Nat, i ≤ l.length ∧ n = l.length - i ∧ l.take i = l'.take i ∧ s = mkSt [(13, .one (.dat (.int .i64 i))), (12, .one (.dat (.int .i64 l.length))), (1, .one (.dat (.sl 2 (l'.map encLRow)))), (0, .one (.dat (.sl 2 (l.map encLRow))))] []) l.length _
    (Ent.wk []) ⟨0, by omega, by omega, rfl, rfl⟩ ?_
  rintro n s ⟨i, hi, rfl, ht, rfl⟩ K hK
  refine evl ?_
  refine ⟨fun h => ?_, fun h => ?_⟩
  · have hlt : i < l.length := by simpa using h
    have hlt' : i < l'.length := by omega
    simp only [getD_map hlt, getD_map hlt', encLRow, List.map_cons, List.map_nil, List.take_succ_cons, List.take_zero]
    simp (maxSteps := 2000000) only [go_sem, ↓reduceIte, reduceCtorEq, Nat.reduceAdd, Nat.reduceMul, Nat.reduceSub, Nat.reduceLT, Nat.reduceLeDiff, Nat.reduceEqDiff, Int.reduceToNat, Int.reduceLT, Int.reduceLE, Int.reduceNeg, wrap_succ hlt hl]
    repeat' first
      | with_reducible intro h
      | ((with_reducible show _ ∧ _); apply And.intro)
    all_goals try (first | assumption | exact True.intro | omega | (clear hK; simp_all; done))
    · apply hK
      refine evl ?_
      refine Fin.nt Tryz.results127 [] ?_ ?_ ?_ <;> try trivial
      first | exact True.intro | (refine rsl ?_; try exact True.intro)
      symm; rw [decide_eq_false_iff_not]
      rintro rfl; simp at h
    · apply hK
      have he : l[i] = l'[i] := by rw [LRow.eq_iff]; simpa using h
      refine ⟨l.length - (i + 1), _, by omega, Ent.wk [], i + 1, by omega, rfl, ?_, rfl⟩
      rw [List.take_succ_eq_append_getElem hlt, List.take_succ_eq_append_getElem hlt', ht, he]
  · have hge : i = l.length := by simp at h; omega
    subst hge
    apply hK
    refine evl ?_
    refine Fin.nt Tryz.results127 [] ?_ ?_ ?_ <;> try trivial
    first | exact True.intro | (refine rsl ?_; try exact True.intro)
    symm; rw [decide_eq_true_iff]
    rw [List.take_of_length_le (Nat.le_refl _), List.take_of_length_le (by omega)] at ht
    exact ht
theorem c124 (l l' : List Pin) (hl : l.length ≤ maxLen) (hl' : l'.length ≤ maxLen) : Ctr Tryz.prog 124 [.one (.dat (.sl 4 (l.map encPin))), .one (.dat (.sl 4 (l'.map encPin)))] [] (.one (.dat (.bool (decide (l = l'))))) [] := by
  refine Ctr.bd mixed Tryz.func124 rfl ?_
  refine evl ?_
  refine ⟨fun h => ?_, fun h => ?_⟩
  · have hne : l.length ≠ l'.length := by simp at h; omega
    refine Fin.nt Tryz.results124 [] ?_ ?_ ?_ <;> try trivial
    first | exact True.intro | (refine rsl ?_; try exact True.intro)
    symm; rw [decide_eq_false_iff_not]
    intro e; exact hne (by rw [e])
  have hlen : l.length = l'.length := by simp at h; omega
  refine LoopK_intro (fun n s => ∃ i : Nat, i ≤ l.length ∧ n = l.length - i ∧ l.take i = l'.take i ∧ s = mkSt [(13, .one (.dat (.int .i64 i))), (12, .one (.dat (.int .i64 l.length))), (1, .one (.dat (.sl 4 (l'.map encPin)))), (0, .one (.dat (.sl 4 (l.map encPin))))] []) l.length _
    (Ent.wk []) ⟨0, by omega, by omega, rfl, rfl⟩ ?_
  rintro n s ⟨i, hi, rfl, ht, rfl⟩ K hK
  refine evl ?_
  refine ⟨fun h => ?_, fun h => ?_⟩
  · have hlt : i < l.length := by simpa using h
    have hlt' : i < l'.length := by omega
    simp only [getD_map hlt, getD_map hlt', encPin, List.map_cons, List.map_nil, List.take_succ_cons, List.take_zero]
    simp (maxSteps := 2000000) only [go_sem, ↓reduceIte, reduceCtorEq, Nat.reduceAdd, Nat.reduceMul, Nat.reduceSub, Nat.reduceLT, Nat.reduceLeDiff, Nat.reduceEqDiff, Int.reduceToNat, Int.reduceLT, Int.reduceLE, Int.reduceNeg, wrap_succ hlt hl]
    repeat' first
      | with_reducible intro h
      | ((with_reducible show _ ∧ _); apply And.intro)
    all_goals try (first | assumption | exact True.intro | omega | (clear hK; simp_all; done))
    · apply hK
      refine evl ?_
      refine Fin.nt Tryz.results124 [] ?_ ?_ ?_ <;> try trivial
      first | exact True.intro | (refine rsl ?_; try exact True.intro)
      symm; rw [decide_eq_false_iff_not]
      rintro rfl; simp at h
    · apply hK
      have he : l[i] = l'[i] := by rw [Pin.eq_iff]; simpa using h
      refine ⟨l.length - (i + 1), _, by omega, Ent.wk [], i + 1, by omega, rfl, ?_, rfl⟩
      rw [List.take_succ_eq_append_getElem hlt, List.take_succ_eq_append_getElem hlt', ht, he]
  · have hge : i = l.length := by simp at h; omega
    subst hge
    apply hK
    refine evl ?_
    refine Fin.nt Tryz.results124 [] ?_ ?_ ?_ <;> try trivial
    first | exact True.intro | (refine rsl ?_; try exact True.intro)
    symm; rw [decide_eq_true_iff]
    rw [List.take_of_length_le (Nat.le_refl _), List.take_of_length_le (by omega)] at ht
    exact ht
theorem c75 (l l' : List Int) (hl : l.length ≤ maxLen) (hl' : l'.length ≤ maxLen) : Ctr Tryz.prog 75 [.one (.dat (.sl 1 (l.map encI))), .one (.dat (.sl 1 (l'.map encI)))] [] (.one (.dat (.bool (decide (l = l'))))) [] := by
  refine Ctr.bd mixed Tryz.func75 rfl ?_
  refine evl ?_
  refine ⟨fun h => ?_, fun h => ?_⟩
  · have hne : l.length ≠ l'.length := by simp at h; omega
    refine Fin.nt Tryz.results75 [] ?_ ?_ ?_ <;> try trivial
    first | exact True.intro | (refine rsl ?_; try exact True.intro)
    symm; rw [decide_eq_false_iff_not]
    intro e; exact hne (by rw [e])
  have hlen : l.length = l'.length := by simp at h; omega
  refine LoopK_intro (fun n s => ∃ i : Nat, i ≤ l.length ∧ n = l.length - i ∧ l.take i = l'.take i ∧ s = mkSt [(5, .one (.dat (.int .i64 i))), (1, .one (.dat (.sl 1 (l'.map encI)))), (0, .one (.dat (.sl 1 (l.map encI))))] []) l.length _
    (Ent.wk []) ⟨0, by omega, by omega, rfl, rfl⟩ ?_
  rintro n s ⟨i, hi, rfl, ht, rfl⟩ K hK
  refine evl ?_
  refine ⟨fun h => ?_, fun h => ?_⟩
  · have hlt : i < l.length := by simpa using h
    have hlt' : i < l'.length := by omega
    simp only [getD_map hlt, getD_map hlt', encI, List.map_cons, List.map_nil, List.take_succ_cons, List.take_zero]
    simp (maxSteps := 2000000) only [go_sem, ↓reduceIte, reduceCtorEq, Nat.reduceAdd, Nat.reduceMul, Nat.reduceSub, Nat.reduceLT, Nat.reduceLeDiff, Nat.reduceEqDiff, Int.reduceToNat, Int.reduceLT, Int.reduceLE, Int.reduceNeg, wrap_succ hlt hl]
    repeat' first
      | with_reducible intro h
      | ((with_reducible show _ ∧ _); apply And.intro)
    all_goals try (first | assumption | exact True.intro | omega | (clear hK; simp_all; done))
    · apply hK
      refine evl ?_
      refine Fin.nt Tryz.results75 [] ?_ ?_ ?_ <;> try trivial
      first | exact True.intro | (refine rsl ?_; try exact True.intro)
      symm; rw [decide_eq_false_iff_not]
      rintro rfl; simp at h
    · apply hK
      have he : l[i] = l'[i] := by simpa using h
      refine ⟨l.length - (i + 1), _, by omega, Ent.wk [], i + 1, by omega, rfl, ?_, rfl⟩
      rw [List.take_succ_eq_append_getElem hlt, List.take_succ_eq_append_getElem hlt', ht, he]
  · have hge : i = l.length := by simp at h; omega
    subst hge
    apply hK
    refine evl ?_
    refine Fin.nt Tryz.results75 [] ?_ ?_ ?_ <;> try trivial
    first | exact True.intro | (refine rsl ?_; try exact True.intro)
    symm; rw [decide_eq_true_iff]
    rw [List.take_of_length_le (Nat.le_refl _), List.take_of_length_le (by omega)] at ht
    exact ht
theorem c77 (l l' : List Cmd) (hl : l.length ≤ maxLen) (hl' : l'.length ≤ maxLen) : Ctr Tryz.prog 77 [.one (.dat (.sl 3 (l.map encCmd))), .one (.dat (.sl 3 (l'.map encCmd)))] [] (.one (.dat (.bool (decide (l = l'))))) [] := by
  refine Ctr.bd mixed Tryz.func77 rfl ?_
  refine evl ?_
  refine ⟨fun h => ?_, fun h => ?_⟩
  · have hne : l.length ≠ l'.length := by simp at h; omega
    refine Fin.nt Tryz.results77 [] ?_ ?_ ?_ <;> try trivial
    first | exact True.intro | (refine rsl ?_; try exact True.intro)
    symm; rw [decide_eq_false_iff_not]
    intro e; exact hne (by rw [e])
  have hlen : l.length = l'.length := by simp at h; omega
  refine LoopK_intro (fun n s => ∃ i : Nat, i ≤ l.length ∧ n = l.length - i ∧ l.take i = l'.take i ∧ s = mkSt [(5, .one (.dat (.int .i64 i))), (1, .one (.dat (.sl 3 (l'.map encCmd)))), (0, .one (.dat (.sl 3 (l.map encCmd))))] []) l.length _
    (Ent.wk []) ⟨0, by omega, by omega, rfl, rfl⟩ ?_
  rintro n s ⟨i, hi, rfl, ht, rfl⟩ K hK
  refine evl ?_
  refine ⟨fun h => ?_, fun h => ?_⟩
  · have hlt : i < l.length := by simpa using h
    have hlt' : i < l'.length := by omega
    simp only [getD_map hlt, getD_map hlt', encCmd, List.map_cons, List.map_nil, List.take_succ_cons, List.take_zero]
    simp (maxSteps := 2000000) only [go_sem, ↓reduceIte, reduceCtorEq, Nat.reduceAdd, Nat.reduceMul, Nat.reduceSub, Nat.reduceLT, Nat.reduceLeDiff, Nat.reduceEqDiff, Int.reduceToNat, Int.reduceLT, Int.reduceLE, Int.reduceNeg, wrap_succ hlt hl]
    repeat' first
      | with_reducible intro h
      | ((with_reducible show _ ∧ _); apply And.intro)
    all_goals try (first | assumption | exact True.intro | omega | (clear hK; simp_all; done))
    · apply hK
      refine evl ?_
      refine Fin.nt Tryz.results77 [] ?_ ?_ ?_ <;> try trivial
      first | exact True.intro | (refine rsl ?_; try exact True.intro)
      symm; rw [decide_eq_false_iff_not]
      rintro rfl; simp at h
    · apply hK
      have he : l[i] = l'[i] := by rw [Cmd.eq_iff]; simpa using h
      refine ⟨l.length - (i + 1), _, by omega, Ent.wk [], i + 1, by omega, rfl, ?_, rfl⟩
      rw [List.take_succ_eq_append_getElem hlt, List.take_succ_eq_append_getElem hlt', ht, he]
  · have hge : i = l.length := by simp at h; omega
    subst hge
    apply hK
    refine evl ?_
    refine Fin.nt Tryz.results77 [] ?_ ?_ ?_ <;> try trivial
    first | exact True.intro | (refine rsl ?_; try exact True.intro)
    symm; rw [decide_eq_true_iff]
    rw [List.take_of_length_le (Nat.le_refl _), List.take_of_length_le (by omega)] at ht
    exact ht
theorem c78 (l l' : List Res) (hl : l.length ≤ maxLen) (hl' : l'.length ≤ maxLen) : Ctr Tryz.prog 78 [.one (.dat (.sl 2 (l.map encRes))), .one (.dat (.sl 2 (l'.map encRes)))] [] (.one (.dat (.bool (decide (l = l'))))) [] := by
  refine Ctr.bd mixed Tryz.func78 rfl ?_
  refine evl ?_
  refine ⟨fun h => ?_, fun h => ?_⟩
  · have hne : l.length ≠ l'.length := by simp at h; omega
    refine Fin.nt Tryz.results78 [] ?_ ?_ ?_ <;> try trivial
    first | exact True.intro | (refine rsl ?_; try exact True.intro)
    symm; rw [decide_eq_false_iff_not]
    intro e; exact hne (by rw [e])
  have hlen : l.length = l'.length := by simp at h; omega
  refine LoopK_intro (fun n s => ∃ i : Nat, i ≤ l.length ∧ n = l.length - i ∧ l.take i = l'.take i ∧ s = mkSt [(5, .one (.dat (.int .i64 i))), (1, .one (.dat (.sl 2 (l'.map encRes)))), (0, .one (.dat (.sl 2 (l.map encRes))))] []) l.length _
    (Ent.wk []) ⟨0, by omega, by omega, rfl, rfl⟩ ?_
  rintro n s ⟨i, hi, rfl, ht, rfl⟩ K hK
  refine evl ?_
  refine ⟨fun h => ?_, fun h => ?_⟩
  · have hlt : i < l.length := by simpa using h
    have hlt' : i < l'.length := by omega
    simp only [getD_map hlt, getD_map hlt', encRes, List.map_cons, List.map_nil, List.take_succ_cons, List.take_zero]
    simp (maxSteps := 2000000) only [go_sem, ↓reduceIte, reduceCtorEq, Nat.reduceAdd, Nat.reduceMul, Nat.reduceSub, Nat.reduceLT, Nat.reduceLeDiff, Nat.reduceEqDiff, Int.reduceToNat, Int.reduceLT, Int.reduceLE, Int.reduceNeg, wrap_succ hlt hl]
    repeat' first
      | with_reducible intro h
      | ((with_reducible show _ ∧ _); apply And.intro)
    all_goals try (first | assumption | exact True.intro | omega | (clear hK; simp_all; done))
    · apply hK
      refine evl ?_
      refine Fin.nt Tryz.results78 [] ?_ ?_ ?_ <;> try trivial
      first | exact True.intro | (refine rsl ?_; try exact True.intro)
      symm; rw [decide_eq_false_iff_not]
      rintro rfl; simp at h
    · apply hK
      have he : l[i] = l'[i] := by rw [Res.eq_iff]; simpa using h
      refine ⟨l.length - (i + 1), _, by omega, Ent.wk [], i + 1, by omega, rfl, ?_, rfl⟩
      rw [List.take_succ_eq_append_getElem hlt, List.take_succ_eq_append_getElem hlt', ht, he]
  · have hge : i = l.length := by simp at h; omega
    subst hge
    apply hK
    refine evl ?_
    refine Fin.nt Tryz.results78 [] ?_ ?_ ?_ <;> try trivial
    first | exact True.intro | (refine rsl ?_; try exact True.intro)
    symm; rw [decide_eq_true_iff]
    rw [List.take_of_length_le (Nat.le_refl _), List.take_of_length_le (by omega)] at ht
    exact ht
end Go.Proofs.YtjfpaiencojehaaGreat.Mod
