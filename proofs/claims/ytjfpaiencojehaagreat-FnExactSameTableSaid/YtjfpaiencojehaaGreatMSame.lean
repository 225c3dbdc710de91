/- Contracts: Same. -/
import Derived.Test.YtjfpaiencojehaaGreatRows
import Derived.Test.YtjfpaiencojehaaGreatTy
import Derived.Test.YtjfpaiencojehaaGreatAbsTac
import Derived.Test.YtjfpaiencojehaaGreatAbsData
import Derived.Test.YtjfpaiencojehaaGreatMSl3
import Derived.Test.YtjfpaiencojehaaGreatMFam3
import Derived.WalkKit
import Derived.ProofKit
import Derived.OpenShut
namespace Go.Proofs.YtjfpaiencojehaaGreat.Mod
open Go.Abs Go.Proofs.YtjfpaiencojehaaGreat.Ty Go.ChangeShapes Go.WideShapes Go.ChangeAt Go.RowKit
set_option linter.unusedSimpArgs false
set_option linter.unusedVariables false
set_option maxHeartbeats 8000000
set_option maxRecDepth 100000
theorem c146 (l l' : List SList) (hl : l.length ≤ maxLen) (hl' : l'.length ≤ maxLen) {fid : FuncId} (he : enters Tryz.prog fid = true)
    (hp : ∀ x ∈ l, ∀ y ∈ l', Ctr Tryz.prog fid [.agg ((encSList x).map .dat), .agg ((encSList y).map .dat)] [] (.one (.dat (.bool (decide (x = y))))) []) : Ctr Tryz.prog 146 [.one (.dat (.sl 1 (l.map encSList))), .one (.dat (.sl 1 (l'.map encSList))), .one (.fn fid [])] [] (.one (.dat (.bool (decide (l = l'))))) [] := by
  refine Ctr.bd mixed Tryz.func146 rfl ?_
  refine evl ?_
  refine ⟨fun h => ?_, fun h => ?_⟩
  · have hne : l.length ≠ l'.length := by simp at h; omega
    refine Fin.nt Tryz.results146 [] ?_ ?_ ?_ <;> try trivial
    first | exact True.intro | (refine rsl ?_; try exact True.intro)
    symm; rw [decide_eq_false_iff_not]
    intro e; exact hne (by rw [e])
  have hlen : l.length = l'.length := by simp at h; omega
  refine LoopK_intro (fun n s => ∃ i : Nat, i ≤ l.length ∧ n = l.length - i ∧ l.take i = l'.take i ∧ s = mkSt [(17, .one (.dat (.int .i64 i))), (16, .one (.dat (.int .i64 l.length))), (15, .one (.dat (.sl 1 (l.map encSList)))), (0, .one (.dat (.sl 1 (l.map encSList)))), (1, .one (.dat (.sl 1 (l'.map encSList)))), (2, .one (.fn fid []))] []) l.length _
    (Ent.wk []) ⟨0, by omega, by omega, rfl, rfl⟩ ?_
  rintro n s ⟨i, hi, rfl, ht, rfl⟩ K hK
  rcases Nat.lt_or_ge i l.length with hlt | hge
  · have hdi : decide ((i : Int) < ((l.length : Nat) : Int)) = true := decide_eq_true (by omega)
    have hlt' : i < l'.length := by omega
    have hw := wrap_succ hlt hl
    have hpx := hp l[i] (List.getElem_mem hlt) l'[i] (List.getElem_mem hlt')
    simp only [encSList, List.map_cons, List.map_nil] at hpx
    simp (maxSteps := 2000000) only [go_sem, ↓reduceIte, reduceCtorEq, Nat.reduceAdd, Nat.reduceMul, Nat.reduceSub, Nat.reduceLT, Nat.reduceLeDiff, Nat.reduceEqDiff, Int.reduceToNat, Int.reduceLT, Int.reduceLE, Int.reduceNeg, hdi, hw, getD_map hlt, getD_map hlt', encSList, List.length_map]
    repeat ((with_reducible show _ ∧ _); refine scA ?_)
    refine CallK_pure he hpx rfl ?_
    simp (maxSteps := 2000000) only [go_sem, ↓reduceIte, reduceCtorEq, Nat.reduceAdd, Nat.reduceMul, Nat.reduceSub, Nat.reduceLT, Nat.reduceLeDiff, Nat.reduceEqDiff, Int.reduceToNat, Int.reduceLT, Int.reduceLE, Int.reduceNeg, hw]
    refine ⟨fun h => ?_, fun h => ?_⟩
    · apply hK
      refine evl ?_
      refine Fin.nt Tryz.results146 [] ?_ ?_ ?_ <;> try trivial
      first | exact True.intro | (refine rsl ?_; try exact True.intro)
      symm; rw [decide_eq_false_iff_not]
      rintro rfl; simp at h
    · apply hK
      have he : l[i] = l'[i] := by simpa using h
      refine ⟨l.length - (i + 1), _, by omega, Ent.wk [], i + 1, by omega, rfl, ?_, rfl⟩
      rw [List.take_succ_eq_append_getElem hlt, List.take_succ_eq_append_getElem hlt', ht, he]
  · have hge : i = l.length := by omega
    subst hge
    have hdi : decide (((l.length : Nat) : Int) < ((l.length : Nat) : Int)) = false := by simp
    simp (maxSteps := 2000000) only [go_sem, ↓reduceIte, reduceCtorEq, Nat.reduceAdd, Nat.reduceMul, Nat.reduceSub, Nat.reduceLT, Nat.reduceLeDiff, Nat.reduceEqDiff, Int.reduceToNat, Int.reduceLT, Int.reduceLE, Int.reduceNeg, hdi, List.length_map]
    apply hK
    refine evl ?_
    refine Fin.nt Tryz.results146 [] ?_ ?_ ?_ <;> try trivial
    first | exact True.intro | (refine rsl ?_; try exact True.intro)
    symm; rw [decide_eq_true_iff]
    rw [List.take_of_length_le (Nat.le_refl _), List.take_of_length_le (by omega)] at ht
    exact ht
theorem c125 (l l' : List LList) (hl : l.length ≤ maxLen) (hl' : l'.length ≤ maxLen) {fid : FuncId} (he : enters Tryz.prog fid = true)
    (hp : ∀ x ∈ l, ∀ y ∈ l', Ctr Tryz.prog fid [.agg ((encLList x).map .dat), .agg ((encLList y).map .dat)] [] (.one (.dat (.bool (decide (x = y))))) []) : Ctr Tryz.prog 125 [.one (.dat (.sl 1 (l.map encLList))), .one (.dat (.sl 1 (l'.map encLList))), .one (.fn fid [])] [] (.one (.dat (.bool (decide (l = l'))))) [] := by
  refine Ctr.bd mixed Tryz.func125 rfl ?_
  refine evl ?_
  refine ⟨fun h => ?_, fun h => ?_⟩
  · have hne : l.length ≠ l'.length := by simp at h; omega
    refine Fin.nt Tryz.results125 [] ?_ ?_ ?_ <;> try trivial
    first | exact True.intro | (refine rsl ?_; try exact True.intro)
    symm; rw [decide_eq_false_iff_not]
    intro e; exact hne (by rw [e])
  have hlen : l.length = l'.length := by simp at h; omega
  refine LoopK_intro (fun n s => ∃ i : Nat, i ≤ l.length ∧ n = l.length - i ∧ l.take i = l'.take i ∧ s = mkSt [(17, .one (.dat (.int .i64 i))), (16, .one (.dat (.int .i64 l.length))), (15, .one (.dat (.sl 1 (l.map encLList)))), (0, .one (.dat (.sl 1 (l.map encLList)))), (1, .one (.dat (.sl 1 (l'.map encLList)))), (2, .one (.fn fid []))] []) l.length _
    (Ent.wk []) ⟨0, by omega, by omega, rfl, rfl⟩ ?_
  rintro n s ⟨i, hi, rfl, ht, rfl⟩ K hK
  rcases Nat.lt_or_ge i l.length with hlt | hge
  · have hdi : decide ((i : Int) < ((l.length : Nat) : Int)) = true := decide_eq_true (by omega)
    have hlt' : i < l'.length := by omega
    have hw := wrap_succ hlt hl
    have hpx := hp l[i] (List.getElem_mem hlt) l'[i] (List.getElem_mem hlt')
    simp only [encLList, List.map_cons, List.map_nil] at hpx
    simp (maxSteps := 2000000) only [go_sem, ↓reduceIte, reduceCtorEq, Nat.reduceAdd, Nat.reduceMul, Nat.reduceSub, Nat.reduceLT, Nat.reduceLeDiff, Nat.reduceEqDiff, Int.reduceToNat, Int.reduceLT, Int.reduceLE, Int.reduceNeg, hdi, hw, getD_map hlt, getD_map hlt', encLList, List.length_map]
    repeat ((with_reducible show _ ∧ _); refine scA ?_)
    refine CallK_pure he hpx rfl ?_
    simp (maxSteps := 2000000) only [go_sem, ↓reduceIte, reduceCtorEq, Nat.reduceAdd, Nat.reduceMul, Nat.reduceSub, Nat.reduceLT, Nat.reduceLeDiff, Nat.reduceEqDiff, Int.reduceToNat, Int.reduceLT, Int.reduceLE, Int.reduceNeg, hw]
    refine ⟨fun h => ?_, fun h => ?_⟩
    · apply hK
      refine evl ?_
      refine Fin.nt Tryz.results125 [] ?_ ?_ ?_ <;> try trivial
      first | exact True.intro | (refine rsl ?_; try exact True.intro)
      symm; rw [decide_eq_false_iff_not]
      rintro rfl; simp at h
    · apply hK
      have he : l[i] = l'[i] := by simpa using h
      refine ⟨l.length - (i + 1), _, by omega, Ent.wk [], i + 1, by omega, rfl, ?_, rfl⟩
      rw [List.take_succ_eq_append_getElem hlt, List.take_succ_eq_append_getElem hlt', ht, he]
  · have hge : i = l.length := by omega
    subst hge
    have hdi : decide (((l.length : Nat) : Int) < ((l.length : Nat) : Int)) = false := by simp
    simp (maxSteps := 2000000) only [go_sem, ↓reduceIte, reduceCtorEq, Nat.reduceAdd, Nat.reduceMul, Nat.reduceSub, Nat.reduceLT, Nat.reduceLeDiff, Nat.reduceEqDiff, Int.reduceToNat, Int.reduceLT, Int.reduceLE, Int.reduceNeg, hdi, List.length_map]
    apply hK
    refine evl ?_
    refine Fin.nt Tryz.results125 [] ?_ ?_ ?_ <;> try trivial
    first | exact True.intro | (refine rsl ?_; try exact True.intro)
    symm; rw [decide_eq_true_iff]
    rw [List.take_of_length_le (Nat.le_refl _), List.take_of_length_le (by omega)] at ht
    exact ht
theorem c41 (l l' : List Batch) (hl : l.length ≤ maxLen) (hl' : l'.length ≤ maxLen) {fid : FuncId} (he : enters Tryz.prog fid = true)
    (hp : ∀ x ∈ l, ∀ y ∈ l', Ctr Tryz.prog fid [.agg ((encBatch x).map .dat), .agg ((encBatch y).map .dat)] [] (.one (.dat (.bool (decide (x = y))))) []) : Ctr Tryz.prog 41 [.one (.dat (.sl 2 (l.map encBatch))), .one (.dat (.sl 2 (l'.map encBatch))), .one (.fn fid [])] [] (.one (.dat (.bool (decide (l = l'))))) [] := by
  refine Ctr.bd mixed Tryz.func41 rfl ?_
  refine evl ?_
  refine ⟨fun h => ?_, fun h => ?_⟩
  · have hne : l.length ≠ l'.length := by simp at h; omega
    refine Fin.nt Tryz.results41 [] ?_ ?_ ?_ <;> try trivial
    first | exact True.intro | (refine rsl ?_; try exact True.intro)
    symm; rw [decide_eq_false_iff_not]
    intro e; exact hne (by rw [e])
  have hlen : l.length = l'.length := by simp at h; omega
  refine LoopK_intro (fun n s => ∃ i : Nat, i ≤ l.length ∧ n = l.length - i ∧ l.take i = l'.take i ∧ s = mkSt [(17, .one (.dat (.int .i64 i))), (16, .one (.dat (.int .i64 l.length))), (15, .one (.dat (.sl 2 (l.map encBatch)))), (0, .one (.dat (.sl 2 (l.map encBatch)))), (1, .one (.dat (.sl 2 (l'.map encBatch)))), (2, .one (.fn fid []))] []) l.length _
    (Ent.wk []) ⟨0, by omega, by omega, rfl, rfl⟩ ?_
  rintro n s ⟨i, hi, rfl, ht, rfl⟩ K hK
  rcases Nat.lt_or_ge i l.length with hlt | hge
  · have hdi : decide ((i : Int) < ((l.length : Nat) : Int)) = true := decide_eq_true (by omega)
    have hlt' : i < l'.length := by omega
    have hw := wrap_succ hlt hl
    have hpx := hp l[i] (List.getElem_mem hlt) l'[i] (List.getElem_mem hlt')
    simp only [encBatch, List.map_cons, List.map_nil] at hpx
    simp (maxSteps := 2000000) only [go_sem, ↓reduceIte, reduceCtorEq, Nat.reduceAdd, Nat.reduceMul, Nat.reduceSub, Nat.reduceLT, Nat.reduceLeDiff, Nat.reduceEqDiff, Int.reduceToNat, Int.reduceLT, Int.reduceLE, Int.reduceNeg, hdi, hw, getD_map hlt, getD_map hlt', encBatch, List.length_map]
    repeat ((with_reducible show _ ∧ _); refine scA ?_)
    refine CallK_pure he hpx rfl ?_
    simp (maxSteps := 2000000) only [go_sem, ↓reduceIte, reduceCtorEq, Nat.reduceAdd, Nat.reduceMul, Nat.reduceSub, Nat.reduceLT, Nat.reduceLeDiff, Nat.reduceEqDiff, Int.reduceToNat, Int.reduceLT, Int.reduceLE, Int.reduceNeg, hw]
    refine ⟨fun h => ?_, fun h => ?_⟩
    · apply hK
      refine evl ?_
      refine Fin.nt Tryz.results41 [] ?_ ?_ ?_ <;> try trivial
      first | exact True.intro | (refine rsl ?_; try exact True.intro)
      symm; rw [decide_eq_false_iff_not]
      rintro rfl; simp at h
    · apply hK
      have he : l[i] = l'[i] := by simpa using h
      refine ⟨l.length - (i + 1), _, by omega, Ent.wk [], i + 1, by omega, rfl, ?_, rfl⟩
      rw [List.take_succ_eq_append_getElem hlt, List.take_succ_eq_append_getElem hlt', ht, he]
  · have hge : i = l.length := by omega
    subst hge
    have hdi : decide (((l.length : Nat) : Int) < ((l.length : Nat) : Int)) = false := by simp
    simp (maxSteps := 2000000) only [go_sem, ↓reduceIte, reduceCtorEq, Nat.reduceAdd, Nat.reduceMul, Nat.reduceSub, Nat.reduceLT, Nat.reduceLeDiff, Nat.reduceEqDiff, Int.reduceToNat, Int.reduceLT, Int.reduceLE, Int.reduceNeg, hdi, List.length_map]
    apply hK
    refine evl ?_
    refine Fin.nt Tryz.results41 [] ?_ ?_ ?_ <;> try trivial
    first | exact True.intro | (refine rsl ?_; try exact True.intro)
    symm; rw [decide_eq_true_iff]
    rw [List.take_of_length_le (Nat.le_refl _), List.take_of_length_le (by omega)] at ht
    exact ht
theorem c39 (l l' : List TQueue) (hl : l.length ≤ maxLen) (hl' : l'.length ≤ maxLen) {fid : FuncId} (he : enters Tryz.prog fid = true)
    (hp : ∀ x ∈ l, ∀ y ∈ l', Ctr Tryz.prog fid [.agg ((encTQueue x).map .dat), .agg ((encTQueue y).map .dat)] [] (.one (.dat (.bool (decide (x = y))))) []) : Ctr Tryz.prog 39 [.one (.dat (.sl 1 (l.map encTQueue))), .one (.dat (.sl 1 (l'.map encTQueue))), .one (.fn fid [])] [] (.one (.dat (.bool (decide (l = l'))))) [] := by
  refine Ctr.bd mixed Tryz.func39 rfl ?_
  refine evl ?_
  refine ⟨fun h => ?_, fun h => ?_⟩
  · have hne : l.length ≠ l'.length := by simp at h; omega
    refine Fin.nt Tryz.results39 [] ?_ ?_ ?_ <;> try trivial
    first | exact True.intro | (refine rsl ?_; try exact True.intro)
    symm; rw [decide_eq_false_iff_not]
    intro e; exact hne (by rw [e])
  have hlen : l.length = l'.length := by simp at h; omega
  refine LoopK_intro (fun n s => ∃ i : Nat, i ≤ l.length ∧ n = l.length - i ∧ l.take i = l'.take i ∧ s = mkSt [(17, .one (.dat (.int .i64 i))), (16, .one (.dat (.int .i64 l.length))), (15, .one (.dat (.sl 1 (l.map encTQueue)))), (0, .one (.dat (.sl 1 (l.map encTQueue)))), (1, .one (.dat (.sl 1 (l'.map encTQueue)))), (2, .one (.fn fid []))] []) l.length _
    (Ent.wk []) ⟨0, by omega, by omega, rfl, rfl⟩ ?_
  rintro n s ⟨i, hi, rfl, ht, rfl⟩ K hK
  rcases Nat.lt_or_ge i l.length with hlt | hge
  · have hdi : decide ((i : Int) < ((l.length : Nat) : Int)) = true := decide_eq_true (by omega)
    have hlt' : i < l'.length := by omega
    have hw := wrap_succ hlt hl
    have hpx := hp l[i] (List.getElem_mem hlt) l'[i] (List.getElem_mem hlt')
    simp only [encTQueue, List.map_cons, List.map_nil] at hpx
    simp (maxSteps := 2000000) only [go_sem, ↓reduceIte, reduceCtorEq, Nat.reduceAdd, Nat.reduceMul, Nat.reduceSub, Nat.reduceLT, Nat.reduceLeDiff, Nat.reduceEqDiff, Int.reduceToNat, Int.reduceLT, Int.reduceLE, Int.reduceNeg, hdi, hw, getD_map hlt, getD_map hlt', encTQueue, List.length_map]
    repeat ((with_reducible show _ ∧ _); refine scA ?_)
    refine CallK_pure he hpx rfl ?_
    simp (maxSteps := 2000000) only [go_sem, ↓reduceIte, reduceCtorEq, Nat.reduceAdd, Nat.reduceMul, Nat.reduceSub, Nat.reduceLT, Nat.reduceLeDiff, Nat.reduceEqDiff, Int.reduceToNat, Int.reduceLT, Int.reduceLE, Int.reduceNeg, hw]
    refine ⟨fun h => ?_, fun h => ?_⟩
    · apply hK
      refine evl ?_
      refine Fin.nt Tryz.results39 [] ?_ ?_ ?_ <;> try trivial
      first | exact True.intro | (refine rsl ?_; try exact True.intro)
      symm; rw [decide_eq_false_iff_not]
      rintro rfl; simp at h
    · apply hK
      have he : l[i] = l'[i] := by simpa using h
      refine ⟨l.length - (i + 1), _, by omega, Ent.wk [], i + 1, by omega, rfl, ?_, rfl⟩
      rw [List.take_succ_eq_append_getElem hlt, List.take_succ_eq_append_getElem hlt', ht, he]
  · have hge : i = l.length := by omega
    subst hge
    have hdi : decide (((l.length : Nat) : Int) < ((l.length : Nat) : Int)) = false := by simp
    simp (maxSteps := 2000000) only [go_sem, ↓reduceIte, reduceCtorEq, Nat.reduceAdd, Nat.reduceMul, Nat.reduceSub, Nat.reduceLT, Nat.reduceLeDiff, Nat.reduceEqDiff, Int.reduceToNat, Int.reduceLT, Int.reduceLE, Int.reduceNeg, hdi, List.length_map]
    apply hK
    refine evl ?_
    refine Fin.nt Tryz.results39 [] ?_ ?_ ?_ <;> try trivial
    first | exact True.intro | (refine rsl ?_; try exact True.intro)
    symm; rw [decide_eq_true_iff]
    rw [List.take_of_length_le (Nat.le_refl _), List.take_of_length_le (by omega)] at ht
    exact ht
theorem c43 (l l' : List TEv) (hl : l.length ≤ maxLen) (hl' : l'.length ≤ maxLen) {fid : FuncId} (he : enters Tryz.prog fid = true)
    (hp : ∀ x ∈ l, ∀ y ∈ l', Ctr Tryz.prog fid [.agg ((encTEv x).map .dat), .agg ((encTEv y).map .dat)] [] (.one (.dat (.bool (decide (x = y))))) []) : Ctr Tryz.prog 43 [.one (.dat (.sl 6 (l.map encTEv))), .one (.dat (.sl 6 (l'.map encTEv))), .one (.fn fid [])] [] (.one (.dat (.bool (decide (l = l'))))) [] := by
  refine Ctr.bd mixed Tryz.func43 rfl ?_
  refine evl ?_
  refine ⟨fun h => ?_, fun h => ?_⟩
  · have hne : l.length ≠ l'.length := by simp at h; omega
    refine Fin.nt Tryz.results43 [] ?_ ?_ ?_ <;> try trivial
    first | exact True.intro | (refine rsl ?_; try exact True.intro)
    symm; rw [decide_eq_false_iff_not]
    intro e; exact hne (by rw [e])
  have hlen : l.length = l'.length := by simp at h; omega
  refine LoopK_intro (fun n s => ∃ i : Nat, i ≤ l.length ∧ n = l.length - i ∧ l.take i = l'.take i ∧ s = mkSt [(17, .one (.dat (.int .i64 i))), (16, .one (.dat (.int .i64 l.length))), (15, .one (.dat (.sl 6 (l.map encTEv)))), (0, .one (.dat (.sl 6 (l.map encTEv)))), (1, .one (.dat (.sl 6 (l'.map encTEv)))), (2, .one (.fn fid []))] []) l.length _
    (Ent.wk []) ⟨0, by omega, by omega, rfl, rfl⟩ ?_
  rintro n s ⟨i, hi, rfl, ht, rfl⟩ K hK
  rcases Nat.lt_or_ge i l.length with hlt | hge
  · have hdi : decide ((i : Int) < ((l.length : Nat) : Int)) = true := decide_eq_true (by omega)
    have hlt' : i < l'.length := by omega
    have hw := wrap_succ hlt hl
    have hpx := hp l[i] (List.getElem_mem hlt) l'[i] (List.getElem_mem hlt')
    simp only [encTEv, List.map_cons, List.map_nil] at hpx
    simp (maxSteps := 2000000) only [go_sem, ↓reduceIte, reduceCtorEq, Nat.reduceAdd, Nat.reduceMul, Nat.reduceSub, Nat.reduceLT, Nat.reduceLeDiff, Nat.reduceEqDiff, Int.reduceToNat, Int.reduceLT, Int.reduceLE, Int.reduceNeg, hdi, hw, getD_map hlt, getD_map hlt', encTEv, List.length_map]
    repeat ((with_reducible show _ ∧ _); refine scA ?_)
    refine CallK_pure he hpx rfl ?_
    simp (maxSteps := 2000000) only [go_sem, ↓reduceIte, reduceCtorEq, Nat.reduceAdd, Nat.reduceMul, Nat.reduceSub, Nat.reduceLT, Nat.reduceLeDiff, Nat.reduceEqDiff, Int.reduceToNat, Int.reduceLT, Int.reduceLE, Int.reduceNeg, hw]
    refine ⟨fun h => ?_, fun h => ?_⟩
    · apply hK
      refine evl ?_
      refine Fin.nt Tryz.results43 [] ?_ ?_ ?_ <;> try trivial
      first | exact True.intro | (refine rsl ?_; try exact True.intro)
      symm; rw [decide_eq_false_iff_not]
      rintro rfl; simp at h
    · apply hK
      have he : l[i] = l'[i] := by simpa using h
      refine ⟨l.length - (i + 1), _, by omega, Ent.wk [], i + 1, by omega, rfl, ?_, rfl⟩
      rw [List.take_succ_eq_append_getElem hlt, List.take_succ_eq_append_getElem hlt', ht, he]
  · have hge : i = l.length := by omega
    subst hge
    have hdi : decide (((l.length : Nat) : Int) < ((l.length : Nat) : Int)) = false := by simp
    simp (maxSteps := 2000000) only [go_sem, ↓reduceIte, reduceCtorEq, Nat.reduceAdd, Nat.reduceMul, Nat.reduceSub, Nat.reduceLT, Nat.reduceLeDiff, Nat.reduceEqDiff, Int.reduceToNat, Int.reduceLT, Int.reduceLE, Int.reduceNeg, hdi, List.length_map]
    apply hK
    refine evl ?_
    refine Fin.nt Tryz.results43 [] ?_ ?_ ?_ <;> try trivial
    first | exact True.intro | (refine rsl ?_; try exact True.intro)
    symm; rw [decide_eq_true_iff]
    rw [List.take_of_length_le (Nat.le_refl _), List.take_of_length_le (by omega)] at ht
    exact ht
theorem c37 (l l' : List TJob) (hl : l.length ≤ maxLen) (hl' : l'.length ≤ maxLen) {fid : FuncId} (he : enters Tryz.prog fid = true)
    (hp : ∀ x ∈ l, ∀ y ∈ l', Ctr Tryz.prog fid [.agg ((encTJob x).map .dat), .agg ((encTJob y).map .dat)] [] (.one (.dat (.bool (decide (x = y))))) []) : Ctr Tryz.prog 37 [.one (.dat (.sl 32 (l.map encTJob))), .one (.dat (.sl 32 (l'.map encTJob))), .one (.fn fid [])] [] (.one (.dat (.bool (decide (l = l'))))) [] := by
  refine Ctr.bd mixed Tryz.func37 rfl ?_
  refine evl ?_
  refine ⟨fun h => ?_, fun h => ?_⟩
  · have hne : l.length ≠ l'.length := by simp at h; omega
    refine Fin.nt Tryz.results37 [] ?_ ?_ ?_ <;> try trivial
    first | exact True.intro | (refine rsl ?_; try exact True.intro)
    symm; rw [decide_eq_false_iff_not]
    intro e; exact hne (by rw [e])
  have hlen : l.length = l'.length := by simp at h; omega
  refine LoopK_intro (fun n s => ∃ i : Nat, i ≤ l.length ∧ n = l.length - i ∧ l.take i = l'.take i ∧ s = mkSt [(17, .one (.dat (.int .i64 i))), (16, .one (.dat (.int .i64 l.length))), (15, .one (.dat (.sl 32 (l.map encTJob)))), (0, .one (.dat (.sl 32 (l.map encTJob)))), (1, .one (.dat (.sl 32 (l'.map encTJob)))), (2, .one (.fn fid []))] []) l.length _
    (Ent.wk []) ⟨0, by omega, by omega, rfl, rfl⟩ ?_
  rintro n s ⟨i, hi, rfl, ht, rfl⟩ K hK
  rcases Nat.lt_or_ge i l.length with hlt | hge
  · have hdi : decide ((i : Int) < ((l.length : Nat) : Int)) = true := decide_eq_true (by omega)
    have hlt' : i < l'.length := by omega
    have hw := wrap_succ hlt hl
    have hpx := hp l[i] (List.getElem_mem hlt) l'[i] (List.getElem_mem hlt')
    simp only [encTJob, List.map_cons, List.map_nil] at hpx
    simp (maxSteps := 2000000) only [go_sem, ↓reduceIte, reduceCtorEq, Nat.reduceAdd, Nat.reduceMul, Nat.reduceSub, Nat.reduceLT, Nat.reduceLeDiff, Nat.reduceEqDiff, Int.reduceToNat, Int.reduceLT, Int.reduceLE, Int.reduceNeg, hdi, hw, getD_map hlt, getD_map hlt', encTJob, List.length_map]
    repeat ((with_reducible show _ ∧ _); refine scA ?_)
    refine CallK_pure he hpx rfl ?_
    simp (maxSteps := 2000000) only [go_sem, ↓reduceIte, reduceCtorEq, Nat.reduceAdd, Nat.reduceMul, Nat.reduceSub, Nat.reduceLT, Nat.reduceLeDiff, Nat.reduceEqDiff, Int.reduceToNat, Int.reduceLT, Int.reduceLE, Int.reduceNeg, hw]
    refine ⟨fun h => ?_, fun h => ?_⟩
    · apply hK
      refine evl ?_
      refine Fin.nt Tryz.results37 [] ?_ ?_ ?_ <;> try trivial
      first | exact True.intro | (refine rsl ?_; try exact True.intro)
      symm; rw [decide_eq_false_iff_not]
      rintro rfl; simp at h
    · apply hK
      have he : l[i] = l'[i] := by simpa using h
      refine ⟨l.length - (i + 1), _, by omega, Ent.wk [], i + 1, by omega, rfl, ?_, rfl⟩
      rw [List.take_succ_eq_append_getElem hlt, List.take_succ_eq_append_getElem hlt', ht, he]
  · have hge : i = l.length := by omega
    subst hge
    have hdi : decide (((l.length : Nat) : Int) < ((l.length : Nat) : Int)) = false := by simp
    simp (maxSteps := 2000000) only [go_sem, ↓reduceIte, reduceCtorEq, Nat.reduceAdd, Nat.reduceMul, Nat.reduceSub, Nat.reduceLT, Nat.reduceLeDiff, Nat.reduceEqDiff, Int.reduceToNat, Int.reduceLT, Int.reduceLE, Int.reduceNeg, hdi, List.length_map]
    apply hK
    refine evl ?_
    refine Fin.nt Tryz.results37 [] ?_ ?_ ?_ <;> try trivial
    first | exact True.intro | (refine rsl ?_; try exact True.intro)
    symm; rw [decide_eq_true_iff]
    rw [List.take_of_length_le (Nat.le_refl _), List.take_of_length_le (by omega)] at ht
    exact ht
theorem c122 (x y : Heap) (hx : x.sok) (hy : y.sok) : Ctr Tryz.prog 122 [.agg ((encHeap x).map .dat), .agg ((encHeap y).map .dat)] [] (.one (.dat (.bool (decide (x = y))))) [] := by
  have hmx : maxLen = 9223372036854775807 := rfl
  obtain ⟨a1, a2, _⟩ := hx
  obtain ⟨b1, b2, _⟩ := hy
  simp only [encHeap, List.map_cons, List.map_nil]
  refine Ctr.bd mixed Tryz.func122 rfl ?_
  refine evl ?_
  repeat ((with_reducible show _ ∧ _); refine scA ?_)
  first | refine CallK_pure e83 (c83 x.Bytes y.Bytes (by omega) (by omega)) rfl ?_ | refine EffK_pw e83 (c83 x.Bytes y.Bytes (by omega) (by omega)) rfl ?_ | refine EffK_pu e83 (c83 x.Bytes y.Bytes (by omega) (by omega)) rfl ?_ | refine CCallK_pl e83 (c83 x.Bytes y.Bytes (by omega) (by omega)) rfl rfl ?_ | refine CCallK_pm e83 (c83 x.Bytes y.Bytes (by omega) (by omega)) rfl rfl ?_
  refine evl ?_
  repeat ((with_reducible show _ ∧ _); refine scA ?_)
  first | refine CallK_pure e83 (c83 x.Class y.Class (by omega) (by omega)) rfl ?_ | refine EffK_pw e83 (c83 x.Class y.Class (by omega) (by omega)) rfl ?_ | refine EffK_pu e83 (c83 x.Class y.Class (by omega) (by omega)) rfl ?_ | refine CCallK_pl e83 (c83 x.Class y.Class (by omega) (by omega)) rfl rfl ?_ | refine CCallK_pm e83 (c83 x.Class y.Class (by omega) (by omega)) rfl rfl ?_
  refine evl ?_
  repeat ((with_reducible show _ ∧ _); refine scA ?_)
  refine Fin.nt Tryz.results122 [] ?_ ?_ ?_ <;> try trivial
  first | exact True.intro | (refine rsl ?_; try exact True.intro)
  rw [Bool.eq_iff_iff]
  simp only [Heap.eq_iff, decide_eq_true_eq]
  all_goals simp [and_assoc]
theorem c145 (x y : SList) (hx : x.sok) (hy : y.sok) : Ctr Tryz.prog 145 [.agg ((encSList x).map .dat), .agg ((encSList y).map .dat)] [] (.one (.dat (.bool (decide (x = y))))) [] := by
  have hmx : maxLen = 9223372036854775807 := rfl
  obtain ⟨a1, _⟩ := hx
  obtain ⟨b1, _⟩ := hy
  simp only [encSList, List.map_cons, List.map_nil]
  refine Ctr.bd mixed Tryz.func145 rfl ?_
  refine evl ?_
  repeat ((with_reducible show _ ∧ _); refine scA ?_)
  first | refine CallK_pure e83 (c83 x.Slots y.Slots (by omega) (by omega)) rfl ?_ | refine EffK_pw e83 (c83 x.Slots y.Slots (by omega) (by omega)) rfl ?_ | refine EffK_pu e83 (c83 x.Slots y.Slots (by omega) (by omega)) rfl ?_ | refine CCallK_pl e83 (c83 x.Slots y.Slots (by omega) (by omega)) rfl rfl ?_ | refine CCallK_pm e83 (c83 x.Slots y.Slots (by omega) (by omega)) rfl rfl ?_
  refine evl ?_
  repeat ((with_reducible show _ ∧ _); refine scA ?_)
  refine Fin.nt Tryz.results145 [] ?_ ?_ ?_ <;> try trivial
  first | exact True.intro | (refine rsl ?_; try exact True.intro)
  rw [Bool.eq_iff_iff]
  simp only [SList.eq_iff, decide_eq_true_eq]
  all_goals simp [and_assoc]
theorem c123 (x y : Lists) (hx : x.sok) (hy : y.sok) : Ctr Tryz.prog 123 [.agg ((encLists x).map .dat), .agg ((encLists y).map .dat)] [] (.one (.dat (.bool (decide (x = y))))) [] := by
  have hmx : maxLen = 9223372036854775807 := rfl
  obtain ⟨a1, qGlobal, a2, qOwn, _⟩ := hx
  obtain ⟨b1, rGlobal, b2, rOwn, _⟩ := hy
  simp only [encLists, List.map_cons, List.map_nil]
  refine Ctr.bd mixed Tryz.func123 rfl ?_
  refine evl ?_
  repeat ((with_reducible show _ ∧ _); refine scA ?_)
  first | refine CallK_pure e146 (c146 x.Global y.Global (by omega) (by omega) e145 (fun u hu v hv => c145 u v (qGlobal u hu) (rGlobal v hv))) rfl ?_ | refine EffK_pw e146 (c146 x.Global y.Global (by omega) (by omega) e145 (fun u hu v hv => c145 u v (qGlobal u hu) (rGlobal v hv))) rfl ?_ | refine EffK_pu e146 (c146 x.Global y.Global (by omega) (by omega) e145 (fun u hu v hv => c145 u v (qGlobal u hu) (rGlobal v hv))) rfl ?_ | refine CCallK_pl e146 (c146 x.Global y.Global (by omega) (by omega) e145 (fun u hu v hv => c145 u v (qGlobal u hu) (rGlobal v hv))) rfl rfl ?_ | refine CCallK_pm e146 (c146 x.Global y.Global (by omega) (by omega) e145 (fun u hu v hv => c145 u v (qGlobal u hu) (rGlobal v hv))) rfl rfl ?_
  refine evl ?_
  repeat ((with_reducible show _ ∧ _); refine scA ?_)
  first | refine CallK_pure e146 (c146 x.Own y.Own (by omega) (by omega) e145 (fun u hu v hv => c145 u v (qOwn u hu) (rOwn v hv))) rfl ?_ | refine EffK_pw e146 (c146 x.Own y.Own (by omega) (by omega) e145 (fun u hu v hv => c145 u v (qOwn u hu) (rOwn v hv))) rfl ?_ | refine EffK_pu e146 (c146 x.Own y.Own (by omega) (by omega) e145 (fun u hu v hv => c145 u v (qOwn u hu) (rOwn v hv))) rfl ?_ | refine CCallK_pl e146 (c146 x.Own y.Own (by omega) (by omega) e145 (fun u hu v hv => c145 u v (qOwn u hu) (rOwn v hv))) rfl rfl ?_ | refine CCallK_pm e146 (c146 x.Own y.Own (by omega) (by omega) e145 (fun u hu v hv => c145 u v (qOwn u hu) (rOwn v hv))) rfl rfl ?_
  refine evl ?_
  repeat ((with_reducible show _ ∧ _); refine scA ?_)
  refine Fin.nt Tryz.results123 [] ?_ ?_ ?_ <;> try trivial
  first | exact True.intro | (refine rsl ?_; try exact True.intro)
  rw [Bool.eq_iff_iff]
  simp only [Lists.eq_iff, decide_eq_true_eq]
  all_goals simp [and_assoc]
theorem c80 (x y : Mem) (hx : x.sok) (hy : y.sok) : Ctr Tryz.prog 80 [.agg ((encMem x).map .dat), .agg ((encMem y).map .dat)] [] (.one (.dat (.bool (decide (x = y))))) [] := by
  have hmx : maxLen = 9223372036854775807 := rfl
  obtain ⟨hHeap, hLists, _⟩ := hx
  obtain ⟨gHeap, gLists, _⟩ := hy
  have sHeap := c122 x.Heap y.Heap hHeap gHeap
  simp only [encHeap, List.map_cons, List.map_nil] at sHeap
  have sLists := c123 x.Lists y.Lists hLists gLists
  simp only [encLists, List.map_cons, List.map_nil] at sLists
  simp only [encMem, List.map_cons, List.map_nil]
  refine Ctr.bd mixed Tryz.func80 rfl ?_
  refine evl ?_
  repeat ((with_reducible show _ ∧ _); refine scA ?_)
  first | refine CallK_pure e122 (sHeap) rfl ?_ | refine EffK_pw e122 (sHeap) rfl ?_ | refine EffK_pu e122 (sHeap) rfl ?_ | refine CCallK_pl e122 (sHeap) rfl rfl ?_ | refine CCallK_pm e122 (sHeap) rfl rfl ?_
  refine evl ?_
  repeat ((with_reducible show _ ∧ _); refine scA ?_)
  first | refine CallK_pure e123 (sLists) rfl ?_ | refine EffK_pw e123 (sLists) rfl ?_ | refine EffK_pu e123 (sLists) rfl ?_ | refine CCallK_pl e123 (sLists) rfl rfl ?_ | refine CCallK_pm e123 (sLists) rfl rfl ?_
  refine evl ?_
  repeat ((with_reducible show _ ∧ _); refine scA ?_)
  refine Fin.nt Tryz.results80 [] ?_ ?_ ?_ <;> try trivial
  first | exact True.intro | (refine rsl ?_; try exact True.intro)
  rw [Bool.eq_iff_iff]
  simp only [Mem.eq_iff, decide_eq_true_eq]
  all_goals simp [and_assoc]
theorem c81 (x y : Clock) (hx : x.sok) (hy : y.sok) : Ctr Tryz.prog 81 [.agg ((encClock x).map .dat), .agg ((encClock y).map .dat)] [] (.one (.dat (.bool (decide (x = y))))) [] := by
  have hmx : maxLen = 9223372036854775807 := rfl
  obtain ⟨a1, _⟩ := hx
  obtain ⟨b1, _⟩ := hy
  simp only [encClock, List.map_cons, List.map_nil]
  refine Ctr.bd mixed Tryz.func81 rfl ?_
  refine evl ?_
  repeat ((with_reducible show _ ∧ _); refine scA ?_)
  first | refine CallK_pure e124 (c124 x.Pins y.Pins (by omega) (by omega)) rfl ?_ | refine EffK_pw e124 (c124 x.Pins y.Pins (by omega) (by omega)) rfl ?_ | refine EffK_pu e124 (c124 x.Pins y.Pins (by omega) (by omega)) rfl ?_ | refine CCallK_pl e124 (c124 x.Pins y.Pins (by omega) (by omega)) rfl rfl ?_ | refine CCallK_pm e124 (c124 x.Pins y.Pins (by omega) (by omega)) rfl rfl ?_
  refine evl ?_
  repeat ((with_reducible show _ ∧ _); refine scA ?_)
  refine Fin.nt Tryz.results81 [] ?_ ?_ ?_ <;> try trivial
  first | exact True.intro | (refine rsl ?_; try exact True.intro)
  rw [Bool.eq_iff_iff]
  simp only [Clock.eq_iff, decide_eq_true_eq]
  all_goals simp [and_assoc]
theorem c126 (x y : LList) (hx : x.sok) (hy : y.sok) : Ctr Tryz.prog 126 [.agg ((encLList x).map .dat), .agg ((encLList y).map .dat)] [] (.one (.dat (.bool (decide (x = y))))) [] := by
  have hmx : maxLen = 9223372036854775807 := rfl
  obtain ⟨a1, _⟩ := hx
  obtain ⟨b1, _⟩ := hy
  simp only [encLList, List.map_cons, List.map_nil]
  refine Ctr.bd mixed Tryz.func126 rfl ?_
  refine evl ?_
  repeat ((with_reducible show _ ∧ _); refine scA ?_)
  first | refine CallK_pure e127 (c127 x.Rows y.Rows (by omega) (by omega)) rfl ?_ | refine EffK_pw e127 (c127 x.Rows y.Rows (by omega) (by omega)) rfl ?_ | refine EffK_pu e127 (c127 x.Rows y.Rows (by omega) (by omega)) rfl ?_ | refine CCallK_pl e127 (c127 x.Rows y.Rows (by omega) (by omega)) rfl rfl ?_ | refine CCallK_pm e127 (c127 x.Rows y.Rows (by omega) (by omega)) rfl rfl ?_
  refine evl ?_
  repeat ((with_reducible show _ ∧ _); refine scA ?_)
  refine Fin.nt Tryz.results126 [] ?_ ?_ ?_ <;> try trivial
  first | exact True.intro | (refine rsl ?_; try exact True.intro)
  rw [Bool.eq_iff_iff]
  simp only [LList.eq_iff, decide_eq_true_eq]
  all_goals simp [and_assoc]
theorem c82 (l l' : List LList) (hl : l.length ≤ 1048576) (hl' : l'.length ≤ 1048576) (q : ∀ x ∈ l, x.sok) (r : ∀ x ∈ l', x.sok) : Ctr Tryz.prog 82 [.one (.dat (.sl 1 (l.map encLList))), .one (.dat (.sl 1 (l'.map encLList)))] [] (.one (.dat (.bool (decide (l = l'))))) [] := by
  have hmx : maxLen = 9223372036854775807 := rfl
  refine Ctr.bd mixed Tryz.func82 rfl ?_
  refine evl ?_
  repeat ((with_reducible show _ ∧ _); refine scA ?_)
  first | refine CallK_pure e125 (c125 l l' (by omega) (by omega) e126 (fun u hu v hv => c126 u v (q u hu) (r v hv))) rfl ?_ | refine EffK_pw e125 (c125 l l' (by omega) (by omega) e126 (fun u hu v hv => c126 u v (q u hu) (r v hv))) rfl ?_ | refine EffK_pu e125 (c125 l l' (by omega) (by omega) e126 (fun u hu v hv => c126 u v (q u hu) (r v hv))) rfl ?_ | refine CCallK_pl e125 (c125 l l' (by omega) (by omega) e126 (fun u hu v hv => c126 u v (q u hu) (r v hv))) rfl rfl ?_ | refine CCallK_pm e125 (c125 l l' (by omega) (by omega) e126 (fun u hu v hv => c126 u v (q u hu) (r v hv))) rfl rfl ?_
  refine evl ?_
  repeat ((with_reducible show _ ∧ _); refine scA ?_)
  refine Fin.nt Tryz.results82 [] ?_ ?_ ?_ <;> try trivial
theorem c35 (x y : Base) (hx : x.sok) (hy : y.sok) : Ctr Tryz.prog 35 [.agg ((encBase x).map .dat), .agg ((encBase y).map .dat)] [] (.one (.dat (.bool (decide (x = y))))) [] := by
  have hmx : maxLen = 9223372036854775807 := rfl
  obtain ⟨hMem, hClock, a1, a2, a3, _⟩ := hx
  obtain ⟨gMem, gClock, b1, b2, b3, _⟩ := hy
  have sMem := c80 x.Mem y.Mem hMem gMem
  simp only [encMem, List.map_cons, List.map_nil] at sMem
  have sClock := c81 x.Clock y.Clock hClock gClock
  simp only [encClock, List.map_cons, List.map_nil] at sClock
  simp only [encBase, List.map_cons, List.map_nil]
  refine Ctr.bd mixed Tryz.func35 rfl ?_
  refine evl ?_
  repeat ((with_reducible show _ ∧ _); refine scA ?_)
  first | refine CallK_pure e80 (sMem) rfl ?_ | refine EffK_pw e80 (sMem) rfl ?_ | refine EffK_pu e80 (sMem) rfl ?_ | refine CCallK_pl e80 (sMem) rfl rfl ?_ | refine CCallK_pm e80 (sMem) rfl rfl ?_
  refine evl ?_
  repeat ((with_reducible show _ ∧ _); refine scA ?_)
  first | refine CallK_pure e81 (sClock) rfl ?_ | refine EffK_pw e81 (sClock) rfl ?_ | refine EffK_pu e81 (sClock) rfl ?_ | refine CCallK_pl e81 (sClock) rfl rfl ?_ | refine CCallK_pm e81 (sClock) rfl rfl ?_
  refine evl ?_
  repeat ((with_reducible show _ ∧ _); refine scA ?_)
  first | refine CallK_pure e82 (c82 x.Limbo y.Limbo a1 b1 a2 b2) rfl ?_ | refine EffK_pw e82 (c82 x.Limbo y.Limbo a1 b1 a2 b2) rfl ?_ | refine EffK_pu e82 (c82 x.Limbo y.Limbo a1 b1 a2 b2) rfl ?_ | refine CCallK_pl e82 (c82 x.Limbo y.Limbo a1 b1 a2 b2) rfl rfl ?_ | refine CCallK_pm e82 (c82 x.Limbo y.Limbo a1 b1 a2 b2) rfl rfl ?_
  refine evl ?_
  repeat ((with_reducible show _ ∧ _); refine scA ?_)
  first | refine CallK_pure e83 (c83 x.Haz y.Haz (by omega) (by omega)) rfl ?_ | refine EffK_pw e83 (c83 x.Haz y.Haz (by omega) (by omega)) rfl ?_ | refine EffK_pu e83 (c83 x.Haz y.Haz (by omega) (by omega)) rfl ?_ | refine CCallK_pl e83 (c83 x.Haz y.Haz (by omega) (by omega)) rfl rfl ?_ | refine CCallK_pm e83 (c83 x.Haz y.Haz (by omega) (by omega)) rfl rfl ?_
  refine evl ?_
  repeat ((with_reducible show _ ∧ _); refine scA ?_)
  refine Fin.nt Tryz.results35 [] ?_ ?_ ?_ <;> try trivial
  first | exact True.intro | (refine rsl ?_; try exact True.intro)
  rw [Bool.eq_iff_iff]
  simp only [Base.eq_iff, decide_eq_true_eq]
  all_goals simp [and_assoc]
theorem c42 (x y : Batch) (hx : x.sok) (hy : y.sok) : Ctr Tryz.prog 42 [.agg ((encBatch x).map .dat), .agg ((encBatch y).map .dat)] [] (.one (.dat (.bool (decide (x = y))))) [] := by
  have hmx : maxLen = 9223372036854775807 := rfl
  obtain ⟨a1, _⟩ := hx
  obtain ⟨b1, _⟩ := hy
  simp only [encBatch, List.map_cons, List.map_nil]
  refine Ctr.bd mixed Tryz.func42 rfl ?_
  refine evl ?_
  repeat ((with_reducible show _ ∧ _); refine scA ?_)
  first | refine CallK_pure e45 (c45 x.Cmds y.Cmds (by omega) (by omega)) rfl ?_ | refine EffK_pw e45 (c45 x.Cmds y.Cmds (by omega) (by omega)) rfl ?_ | refine EffK_pu e45 (c45 x.Cmds y.Cmds (by omega) (by omega)) rfl ?_ | refine CCallK_pl e45 (c45 x.Cmds y.Cmds (by omega) (by omega)) rfl rfl ?_ | refine CCallK_pm e45 (c45 x.Cmds y.Cmds (by omega) (by omega)) rfl rfl ?_
  refine evl ?_
  repeat ((with_reducible show _ ∧ _); refine scA ?_)
  refine Fin.nt Tryz.results42 [] ?_ ?_ ?_ <;> try trivial
  first | exact True.intro | (refine rsl ?_; try exact True.intro)
  rw [Bool.eq_iff_iff]
  simp only [Batch.eq_iff, decide_eq_true_eq]
  all_goals simp [and_assoc]
theorem c38 (x y : TJob) (hx : x.sok) (hy : y.sok) : Ctr Tryz.prog 38 [.agg ((encTJob x).map .dat), .agg ((encTJob y).map .dat)] [] (.one (.dat (.bool (decide (x = y))))) [] := by
  have hmx : maxLen = 9223372036854775807 := rfl
  obtain ⟨hBatch, a1, a2, a3, a4, a5, a6, _⟩ := hx
  obtain ⟨gBatch, b1, b2, b3, b4, b5, b6, _⟩ := hy
  have sBatch := c42 x.Batch y.Batch hBatch gBatch
  simp only [encBatch, List.map_cons, List.map_nil] at sBatch
  simp only [encTJob, List.map_cons, List.map_nil]
  refine Ctr.bd mixed Tryz.func38 rfl ?_
  simp (maxSteps := 2000000) only [go_sem, ↓reduceIte, reduceCtorEq, Nat.reduceAdd, Nat.reduceMul, Nat.reduceSub, Nat.reduceLT, Nat.reduceLeDiff, Nat.reduceEqDiff, Int.reduceToNat, Int.reduceLT, Int.reduceLE, Int.reduceNeg, List.append_eq]
  repeat ((with_reducible show _ ∧ _); refine scA ?_)
  first | refine CallK_pure e42 (sBatch) rfl ?_ | refine EffK_pw e42 (sBatch) rfl ?_ | refine EffK_pu e42 (sBatch) rfl ?_ | refine CCallK_pl e42 (sBatch) rfl rfl ?_ | refine CCallK_pm e42 (sBatch) rfl rfl ?_
  simp (maxSteps := 2000000) only [go_sem, ↓reduceIte, reduceCtorEq, Nat.reduceAdd, Nat.reduceMul, Nat.reduceSub, Nat.reduceLT, Nat.reduceLeDiff, Nat.reduceEqDiff, Int.reduceToNat, Int.reduceLT, Int.reduceLE, Int.reduceNeg, List.append_eq]
  repeat ((with_reducible show _ ∧ _); refine scA ?_)
  first | refine CallK_pure e84 (c84 x.Reads y.Reads (by omega) (by omega)) rfl ?_ | refine EffK_pw e84 (c84 x.Reads y.Reads (by omega) (by omega)) rfl ?_ | refine EffK_pu e84 (c84 x.Reads y.Reads (by omega) (by omega)) rfl ?_ | refine CCallK_pl e84 (c84 x.Reads y.Reads (by omega) (by omega)) rfl rfl ?_ | refine CCallK_pm e84 (c84 x.Reads y.Reads (by omega) (by omega)) rfl rfl ?_
  simp (maxSteps := 2000000) only [go_sem, ↓reduceIte, reduceCtorEq, Nat.reduceAdd, Nat.reduceMul, Nat.reduceSub, Nat.reduceLT, Nat.reduceLeDiff, Nat.reduceEqDiff, Int.reduceToNat, Int.reduceLT, Int.reduceLE, Int.reduceNeg, List.append_eq]
  repeat ((with_reducible show _ ∧ _); refine scA ?_)
  first | refine CallK_pure e85 (c85 x.Writes y.Writes (by omega) (by omega)) rfl ?_ | refine EffK_pw e85 (c85 x.Writes y.Writes (by omega) (by omega)) rfl ?_ | refine EffK_pu e85 (c85 x.Writes y.Writes (by omega) (by omega)) rfl ?_ | refine CCallK_pl e85 (c85 x.Writes y.Writes (by omega) (by omega)) rfl rfl ?_ | refine CCallK_pm e85 (c85 x.Writes y.Writes (by omega) (by omega)) rfl rfl ?_
  simp (maxSteps := 2000000) only [go_sem, ↓reduceIte, reduceCtorEq, Nat.reduceAdd, Nat.reduceMul, Nat.reduceSub, Nat.reduceLT, Nat.reduceLeDiff, Nat.reduceEqDiff, Int.reduceToNat, Int.reduceLT, Int.reduceLE, Int.reduceNeg, List.append_eq]
  repeat ((with_reducible show _ ∧ _); refine scA ?_)
  first | refine CallK_pure e46 (c46 x.Res y.Res (by omega) (by omega)) rfl ?_ | refine EffK_pw e46 (c46 x.Res y.Res (by omega) (by omega)) rfl ?_ | refine EffK_pu e46 (c46 x.Res y.Res (by omega) (by omega)) rfl ?_ | refine CCallK_pl e46 (c46 x.Res y.Res (by omega) (by omega)) rfl rfl ?_ | refine CCallK_pm e46 (c46 x.Res y.Res (by omega) (by omega)) rfl rfl ?_
  simp (maxSteps := 2000000) only [go_sem, ↓reduceIte, reduceCtorEq, Nat.reduceAdd, Nat.reduceMul, Nat.reduceSub, Nat.reduceLT, Nat.reduceLeDiff, Nat.reduceEqDiff, Int.reduceToNat, Int.reduceLT, Int.reduceLE, Int.reduceNeg, List.append_eq]
  repeat ((with_reducible show _ ∧ _); refine scA ?_)
  first | refine CallK_pure e83 (c83 x.New y.New (by omega) (by omega)) rfl ?_ | refine EffK_pw e83 (c83 x.New y.New (by omega) (by omega)) rfl ?_ | refine EffK_pu e83 (c83 x.New y.New (by omega) (by omega)) rfl ?_ | refine CCallK_pl e83 (c83 x.New y.New (by omega) (by omega)) rfl rfl ?_ | refine CCallK_pm e83 (c83 x.New y.New (by omega) (by omega)) rfl rfl ?_
  simp (maxSteps := 2000000) only [go_sem, ↓reduceIte, reduceCtorEq, Nat.reduceAdd, Nat.reduceMul, Nat.reduceSub, Nat.reduceLT, Nat.reduceLeDiff, Nat.reduceEqDiff, Int.reduceToNat, Int.reduceLT, Int.reduceLE, Int.reduceNeg, List.append_eq]
  repeat ((with_reducible show _ ∧ _); refine scA ?_)
  first | refine CallK_pure e83 (c83 x.Held y.Held (by omega) (by omega)) rfl ?_ | refine EffK_pw e83 (c83 x.Held y.Held (by omega) (by omega)) rfl ?_ | refine EffK_pu e83 (c83 x.Held y.Held (by omega) (by omega)) rfl ?_ | refine CCallK_pl e83 (c83 x.Held y.Held (by omega) (by omega)) rfl rfl ?_ | refine CCallK_pm e83 (c83 x.Held y.Held (by omega) (by omega)) rfl rfl ?_
  simp (maxSteps := 2000000) only [go_sem, ↓reduceIte, reduceCtorEq, Nat.reduceAdd, Nat.reduceMul, Nat.reduceSub, Nat.reduceLT, Nat.reduceLeDiff, Nat.reduceEqDiff, Int.reduceToNat, Int.reduceLT, Int.reduceLE, Int.reduceNeg, List.append_eq]
  repeat ((with_reducible show _ ∧ _); refine scA ?_)
  first | refine CallK_pure e83 (c83 x.Olds y.Olds (by omega) (by omega)) rfl ?_ | refine EffK_pw e83 (c83 x.Olds y.Olds (by omega) (by omega)) rfl ?_ | refine EffK_pu e83 (c83 x.Olds y.Olds (by omega) (by omega)) rfl ?_ | refine CCallK_pl e83 (c83 x.Olds y.Olds (by omega) (by omega)) rfl rfl ?_ | refine CCallK_pm e83 (c83 x.Olds y.Olds (by omega) (by omega)) rfl rfl ?_
  simp (maxSteps := 2000000) only [go_sem, ↓reduceIte, reduceCtorEq, Nat.reduceAdd, Nat.reduceMul, Nat.reduceSub, Nat.reduceLT, Nat.reduceLeDiff, Nat.reduceEqDiff, Int.reduceToNat, Int.reduceLT, Int.reduceLE, Int.reduceNeg, List.append_eq]
  repeat ((with_reducible show _ ∧ _); refine scA ?_)
  refine Fin.nt Tryz.results38 [] ?_ ?_ ?_ <;> try trivial
  first | exact True.intro | (refine rsl ?_; try exact True.intro)
  rw [Bool.eq_iff_iff]
  simp only [TJob.eq_iff, decide_eq_true_eq]
  all_goals simp [and_assoc, Node.eq_iff, Sub.eq_iff]
theorem c40 (x y : TQueue) (hx : x.sok) (hy : y.sok) : Ctr Tryz.prog 40 [.agg ((encTQueue x).map .dat), .agg ((encTQueue y).map .dat)] [] (.one (.dat (.bool (decide (x = y))))) [] := by
  have hmx : maxLen = 9223372036854775807 := rfl
  obtain ⟨a1, qList, _⟩ := hx
  obtain ⟨b1, rList, _⟩ := hy
  simp only [encTQueue, List.map_cons, List.map_nil]
  refine Ctr.bd mixed Tryz.func40 rfl ?_
  refine evl ?_
  repeat ((with_reducible show _ ∧ _); refine scA ?_)
  first | refine CallK_pure e41 (c41 x.List y.List (by omega) (by omega) e42 (fun u hu v hv => c42 u v (qList u hu) (rList v hv))) rfl ?_ | refine EffK_pw e41 (c41 x.List y.List (by omega) (by omega) e42 (fun u hu v hv => c42 u v (qList u hu) (rList v hv))) rfl ?_ | refine EffK_pu e41 (c41 x.List y.List (by omega) (by omega) e42 (fun u hu v hv => c42 u v (qList u hu) (rList v hv))) rfl ?_ | refine CCallK_pl e41 (c41 x.List y.List (by omega) (by omega) e42 (fun u hu v hv => c42 u v (qList u hu) (rList v hv))) rfl rfl ?_ | refine CCallK_pm e41 (c41 x.List y.List (by omega) (by omega) e42 (fun u hu v hv => c42 u v (qList u hu) (rList v hv))) rfl rfl ?_
  refine evl ?_
  repeat ((with_reducible show _ ∧ _); refine scA ?_)
  refine Fin.nt Tryz.results40 [] ?_ ?_ ?_ <;> try trivial
  first | exact True.intro | (refine rsl ?_; try exact True.intro)
  rw [Bool.eq_iff_iff]
  simp only [TQueue.eq_iff, decide_eq_true_eq]
  all_goals simp [and_assoc]
theorem c44 (x y : TEv) (hx : x.sok) (hy : y.sok) : Ctr Tryz.prog 44 [.agg ((encTEv x).map .dat), .agg ((encTEv y).map .dat)] [] (.one (.dat (.bool (decide (x = y))))) [] := by
  have hmx : maxLen = 9223372036854775807 := rfl
  obtain ⟨a1, a2, _⟩ := hx
  obtain ⟨b1, b2, _⟩ := hy
  simp only [encTEv, List.map_cons, List.map_nil]
  refine Ctr.bd mixed Tryz.func44 rfl ?_
  refine evl ?_
  repeat ((with_reducible show _ ∧ _); refine scA ?_)
  first | refine CallK_pure e45 (c45 x.Cmds y.Cmds (by omega) (by omega)) rfl ?_ | refine EffK_pw e45 (c45 x.Cmds y.Cmds (by omega) (by omega)) rfl ?_ | refine EffK_pu e45 (c45 x.Cmds y.Cmds (by omega) (by omega)) rfl ?_ | refine CCallK_pl e45 (c45 x.Cmds y.Cmds (by omega) (by omega)) rfl rfl ?_ | refine CCallK_pm e45 (c45 x.Cmds y.Cmds (by omega) (by omega)) rfl rfl ?_
  refine evl ?_
  repeat ((with_reducible show _ ∧ _); refine scA ?_)
  first | refine CallK_pure e46 (c46 x.Res y.Res (by omega) (by omega)) rfl ?_ | refine EffK_pw e46 (c46 x.Res y.Res (by omega) (by omega)) rfl ?_ | refine EffK_pu e46 (c46 x.Res y.Res (by omega) (by omega)) rfl ?_ | refine CCallK_pl e46 (c46 x.Res y.Res (by omega) (by omega)) rfl rfl ?_ | refine CCallK_pm e46 (c46 x.Res y.Res (by omega) (by omega)) rfl rfl ?_
  refine evl ?_
  repeat ((with_reducible show _ ∧ _); refine scA ?_)
  refine Fin.nt Tryz.results44 [] ?_ ?_ ?_ <;> try trivial
  first | exact True.intro | (refine rsl ?_; try exact True.intro)
  rw [Bool.eq_iff_iff]
  simp only [TEv.eq_iff, decide_eq_true_eq]
  all_goals simp [and_assoc]
theorem c11 (x y : Table) (hx : x.sok) (hy : y.sok) : Ctr Tryz.prog 11 [.agg ((encTable x).map .dat), .agg ((encTable y).map .dat)] [] (.one (.dat (.bool (decide (x = y))))) [] := by
  have hmx : maxLen = 9223372036854775807 := rfl
  obtain ⟨hBase, a1, a2, qJobs, a3, qTodo, a4, qLog, _⟩ := hx
  obtain ⟨gBase, b1, b2, rJobs, b3, rTodo, b4, rLog, _⟩ := hy
  have sBase := c35 x.Base y.Base hBase gBase
  simp only [encBase, List.map_cons, List.map_nil] at sBase
  simp only [encTable, List.map_cons, List.map_nil]
  refine Ctr.bd mixed Tryz.func11 rfl ?_
  refine evl ?_
  repeat ((with_reducible show _ ∧ _); refine scA ?_)
  first | refine CallK_pure e35 (sBase) rfl ?_ | refine EffK_pw e35 (sBase) rfl ?_ | refine EffK_pu e35 (sBase) rfl ?_ | refine CCallK_pl e35 (sBase) rfl rfl ?_ | refine CCallK_pm e35 (sBase) rfl rfl ?_
  refine evl ?_
  repeat ((with_reducible show _ ∧ _); refine scA ?_)
  first | refine CallK_pure e36 (c36 x.Bkts y.Bkts (by omega) (by omega)) rfl ?_ | refine EffK_pw e36 (c36 x.Bkts y.Bkts (by omega) (by omega)) rfl ?_ | refine EffK_pu e36 (c36 x.Bkts y.Bkts (by omega) (by omega)) rfl ?_ | refine CCallK_pl e36 (c36 x.Bkts y.Bkts (by omega) (by omega)) rfl rfl ?_ | refine CCallK_pm e36 (c36 x.Bkts y.Bkts (by omega) (by omega)) rfl rfl ?_
  refine evl ?_
  repeat ((with_reducible show _ ∧ _); refine scA ?_)
  first | refine CallK_pure e37 (c37 x.Jobs y.Jobs (by omega) (by omega) e38 (fun u hu v hv => c38 u v (qJobs u hu) (rJobs v hv))) rfl ?_ | refine EffK_pw e37 (c37 x.Jobs y.Jobs (by omega) (by omega) e38 (fun u hu v hv => c38 u v (qJobs u hu) (rJobs v hv))) rfl ?_ | refine EffK_pu e37 (c37 x.Jobs y.Jobs (by omega) (by omega) e38 (fun u hu v hv => c38 u v (qJobs u hu) (rJobs v hv))) rfl ?_ | refine CCallK_pl e37 (c37 x.Jobs y.Jobs (by omega) (by omega) e38 (fun u hu v hv => c38 u v (qJobs u hu) (rJobs v hv))) rfl rfl ?_ | refine CCallK_pm e37 (c37 x.Jobs y.Jobs (by omega) (by omega) e38 (fun u hu v hv => c38 u v (qJobs u hu) (rJobs v hv))) rfl rfl ?_
  refine evl ?_
  repeat ((with_reducible show _ ∧ _); refine scA ?_)
  first | refine CallK_pure e39 (c39 x.Todo y.Todo (by omega) (by omega) e40 (fun u hu v hv => c40 u v (qTodo u hu) (rTodo v hv))) rfl ?_ | refine EffK_pw e39 (c39 x.Todo y.Todo (by omega) (by omega) e40 (fun u hu v hv => c40 u v (qTodo u hu) (rTodo v hv))) rfl ?_ | refine EffK_pu e39 (c39 x.Todo y.Todo (by omega) (by omega) e40 (fun u hu v hv => c40 u v (qTodo u hu) (rTodo v hv))) rfl ?_ | refine CCallK_pl e39 (c39 x.Todo y.Todo (by omega) (by omega) e40 (fun u hu v hv => c40 u v (qTodo u hu) (rTodo v hv))) rfl rfl ?_ | refine CCallK_pm e39 (c39 x.Todo y.Todo (by omega) (by omega) e40 (fun u hu v hv => c40 u v (qTodo u hu) (rTodo v hv))) rfl rfl ?_
  refine evl ?_
  repeat ((with_reducible show _ ∧ _); refine scA ?_)
  first | refine CallK_pure e43 (c43 x.Log y.Log (by omega) (by omega) e44 (fun u hu v hv => c44 u v (qLog u hu) (rLog v hv))) rfl ?_ | refine EffK_pw e43 (c43 x.Log y.Log (by omega) (by omega) e44 (fun u hu v hv => c44 u v (qLog u hu) (rLog v hv))) rfl ?_ | refine EffK_pu e43 (c43 x.Log y.Log (by omega) (by omega) e44 (fun u hu v hv => c44 u v (qLog u hu) (rLog v hv))) rfl ?_ | refine CCallK_pl e43 (c43 x.Log y.Log (by omega) (by omega) e44 (fun u hu v hv => c44 u v (qLog u hu) (rLog v hv))) rfl rfl ?_ | refine CCallK_pm e43 (c43 x.Log y.Log (by omega) (by omega) e44 (fun u hu v hv => c44 u v (qLog u hu) (rLog v hv))) rfl rfl ?_
  refine evl ?_
  repeat ((with_reducible show _ ∧ _); refine scA ?_)
  refine Fin.nt Tryz.results11 [] ?_ ?_ ?_ <;> try trivial
  first | exact True.intro | (refine rsl ?_; try exact True.intro)
  rw [Bool.eq_iff_iff]
  simp only [Table.eq_iff, decide_eq_true_eq]
  simp [and_assoc]
  intros
  constructor <;> (rintro ⟨a, b, c⟩; simp_all)
theorem c120 (x y : Heap) (hx : x.sok) (hy : y.sok) : Ctr Tryz.prog 120 [.agg ((encHeap x).map .dat), .agg ((encHeap y).map .dat)] [] (.one (.dat (.bool (decide (x = y))))) [] := by
  have hmx : maxLen = 9223372036854775807 := rfl
  obtain ⟨a1, a2, _⟩ := hx
  obtain ⟨b1, b2, _⟩ := hy
  simp only [encHeap, List.map_cons, List.map_nil]
  refine Ctr.bd mixed Tryz.func120 rfl ?_
  refine evl ?_
  repeat ((with_reducible show _ ∧ _); refine scA ?_)
  first | refine CallK_pure e75 (c75 x.Bytes y.Bytes (by omega) (by omega)) rfl ?_ | refine EffK_pw e75 (c75 x.Bytes y.Bytes (by omega) (by omega)) rfl ?_ | refine EffK_pu e75 (c75 x.Bytes y.Bytes (by omega) (by omega)) rfl ?_ | refine CCallK_pl e75 (c75 x.Bytes y.Bytes (by omega) (by omega)) rfl rfl ?_ | refine CCallK_pm e75 (c75 x.Bytes y.Bytes (by omega) (by omega)) rfl rfl ?_
  refine evl ?_
  repeat ((with_reducible show _ ∧ _); refine scA ?_)
  first | refine CallK_pure e75 (c75 x.Class y.Class (by omega) (by omega)) rfl ?_ | refine EffK_pw e75 (c75 x.Class y.Class (by omega) (by omega)) rfl ?_ | refine EffK_pu e75 (c75 x.Class y.Class (by omega) (by omega)) rfl ?_ | refine CCallK_pl e75 (c75 x.Class y.Class (by omega) (by omega)) rfl rfl ?_ | refine CCallK_pm e75 (c75 x.Class y.Class (by omega) (by omega)) rfl rfl ?_
  refine evl ?_
  repeat ((with_reducible show _ ∧ _); refine scA ?_)
  refine Fin.nt Tryz.results120 [] ?_ ?_ ?_ <;> try trivial
  first | exact True.intro | (refine rsl ?_; try exact True.intro)
  rw [Bool.eq_iff_iff]
  simp only [Heap.eq_iff, decide_eq_true_eq]
  all_goals simp [and_assoc]
theorem c144 (l l' : List SList) (hl : l.length ≤ 1048576) (hl' : l'.length ≤ 1048576) (q : ∀ x ∈ l, x.sok) (r : ∀ x ∈ l', x.sok) : Ctr Tryz.prog 144 [.one (.dat (.sl 1 (l.map encSList))), .one (.dat (.sl 1 (l'.map encSList)))] [] (.one (.dat (.bool (decide (l = l'))))) [] := by
  have hmx : maxLen = 9223372036854775807 := rfl
  refine Ctr.bd mixed Tryz.func144 rfl ?_
  simp (maxSteps := 2000000) only [go_sem, ↓reduceIte, reduceCtorEq, Nat.reduceAdd, Nat.reduceMul, Nat.reduceSub, Nat.reduceLT, Nat.reduceLeDiff, Nat.reduceEqDiff, Int.reduceToNat, Int.reduceLT, Int.reduceLE, Int.reduceNeg, List.length_map]
  repeat ((with_reducible show _ ∧ _); refine scA ?_)
  refine ⟨fun h => ?_, fun h => ?_⟩
  · have hne : l.length ≠ l'.length := by simp at h; omega
    refine Fin.nt Tryz.results144 [] ?_ ?_ ?_ <;> try trivial
    first | exact True.intro | (refine rsl ?_; try exact True.intro)
    symm; rw [decide_eq_false_iff_not]
    intro e; exact hne (by rw [e])
  have hlen : l.length = l'.length := by simp at h; omega
  refine LoopK_intro (fun zn zs => ∃ i : Nat, i ≤ l.length ∧ zn = l.length - i ∧ (l.take i = l'.take i) ∧ zs = mkSt [(5, .one (.dat (.int .i64 i))), (0, .one (.dat (.sl 1 (l.map encSList)))), (1, .one (.dat (.sl 1 (l'.map encSList))))] []) (l.length) _
    (Ent.wk []) ⟨0, by omega, by omega, rfl, rfl⟩ ?_
  rintro zn zs ⟨i, hi, rfl, hinv, rfl⟩ K hK
  rcases Nat.lt_or_ge i (l.length) with hlt | hge
  · have hdi : decide ((i : Int) < ((l.length : Nat) : Int)) = true := decide_eq_true (by omega)
    have hw := wrap_succ hlt (show l.length ≤ maxLen by omega)
    have hlt' : i < l'.length := by omega
    obtain ⟨a1, _⟩ := q l[i] (List.getElem_mem hlt)
    obtain ⟨b1, _⟩ := r l'[i] (List.getElem_mem hlt')
    simp (maxSteps := 2000000) only [go_sem, ↓reduceIte, reduceCtorEq, Nat.reduceAdd, Nat.reduceMul, Nat.reduceSub, Nat.reduceLT, Nat.reduceLeDiff, Nat.reduceEqDiff, Int.reduceToNat, Int.reduceLT, Int.reduceLE, Int.reduceNeg, hdi, hw, getD_map hlt, getD_map hlt', encSList, List.length_map]
    repeat ((with_reducible show _ ∧ _); refine scA ?_)
    first | refine CallK_pure e75 (c75 l[i].Slots l'[i].Slots (by omega) (by omega)) rfl ?_ | refine EffK_pw e75 (c75 l[i].Slots l'[i].Slots (by omega) (by omega)) rfl ?_ | refine EffK_pu e75 (c75 l[i].Slots l'[i].Slots (by omega) (by omega)) rfl ?_ | refine CCallK_pl e75 (c75 l[i].Slots l'[i].Slots (by omega) (by omega)) rfl rfl ?_ | refine CCallK_pm e75 (c75 l[i].Slots l'[i].Slots (by omega) (by omega)) rfl rfl ?_
    simp (maxSteps := 2000000) only [go_sem, ↓reduceIte, reduceCtorEq, Nat.reduceAdd, Nat.reduceMul, Nat.reduceSub, Nat.reduceLT, Nat.reduceLeDiff, Nat.reduceEqDiff, Int.reduceToNat, Int.reduceLT, Int.reduceLE, Int.reduceNeg, hdi, hw, getD_map hlt, getD_map hlt', encSList, List.length_map]
    refine ⟨fun hq => ?_, fun hq => ?_⟩
    · have hne : l[i] ≠ l'[i] := fun e => by rw [e] at hq; simp at hq
      apply hK
      simp (maxSteps := 2000000) only [go_sem, ↓reduceIte, reduceCtorEq, Nat.reduceAdd, Nat.reduceMul, Nat.reduceSub, Nat.reduceLT, Nat.reduceLeDiff, Nat.reduceEqDiff, Int.reduceToNat, Int.reduceLT, Int.reduceLE, Int.reduceNeg, hdi, hw, getD_map hlt, getD_map hlt', encSList, List.length_map]
      refine Fin.nt Tryz.results144 [] ?_ ?_ ?_ <;> try trivial
      first | exact True.intro | (refine rsl ?_; try exact True.intro)
      symm; rw [decide_eq_false_iff_not]
      rintro rfl; exact hne rfl
    · have he : l[i] = l'[i] := by rw [SList.eq_iff]; simpa [and_assoc] using hq
      (apply hK
       exact ⟨l.length - (i + 1), _, by omega, Ent.wk [], i + 1, by omega, rfl, by rw [List.take_succ_eq_append_getElem hlt, List.take_succ_eq_append_getElem hlt', hinv, he], rfl⟩)
  · have hge' : l.length = i := by omega
    subst hge'
    have hdi : decide (((l.length : Nat) : Int) < ((l.length : Nat) : Int)) = false := by simp
    have ht : l = l' := by
      rw [List.take_of_length_le (Nat.le_refl _), List.take_of_length_le (by omega)] at hinv
      exact hinv
    clear hinv
    simp (maxSteps := 2000000) only [go_sem, ↓reduceIte, reduceCtorEq, Nat.reduceAdd, Nat.reduceMul, Nat.reduceSub, Nat.reduceLT, Nat.reduceLeDiff, Nat.reduceEqDiff, Int.reduceToNat, Int.reduceLT, Int.reduceLE, Int.reduceNeg, hdi, List.length_map]
    apply hK
    refine evl ?_
    refine Fin.nt Tryz.results144 [] ?_ ?_ ?_ <;> try trivial
    first | exact True.intro | (refine rsl ?_; try exact True.intro)
    symm; rw [decide_eq_true_iff]
    exact ht
theorem c121 (x y : Lists) (hx : x.sok) (hy : y.sok) : Ctr Tryz.prog 121 [.agg ((encLists x).map .dat), .agg ((encLists y).map .dat)] [] (.one (.dat (.bool (decide (x = y))))) [] := by
  have hmx : maxLen = 9223372036854775807 := rfl
  obtain ⟨a1, qGlobal, a2, qOwn, _⟩ := hx
  obtain ⟨b1, rGlobal, b2, rOwn, _⟩ := hy
  simp only [encLists, List.map_cons, List.map_nil]
  refine Ctr.bd mixed Tryz.func121 rfl ?_
  refine evl ?_
  repeat ((with_reducible show _ ∧ _); refine scA ?_)
  first | refine CallK_pure e144 (c144 x.Global y.Global (by omega) (by omega) qGlobal rGlobal) rfl ?_ | refine EffK_pw e144 (c144 x.Global y.Global (by omega) (by omega) qGlobal rGlobal) rfl ?_ | refine EffK_pu e144 (c144 x.Global y.Global (by omega) (by omega) qGlobal rGlobal) rfl ?_ | refine CCallK_pl e144 (c144 x.Global y.Global (by omega) (by omega) qGlobal rGlobal) rfl rfl ?_ | refine CCallK_pm e144 (c144 x.Global y.Global (by omega) (by omega) qGlobal rGlobal) rfl rfl ?_
  refine evl ?_
  repeat ((with_reducible show _ ∧ _); refine scA ?_)
  first | refine CallK_pure e144 (c144 x.Own y.Own (by omega) (by omega) qOwn rOwn) rfl ?_ | refine EffK_pw e144 (c144 x.Own y.Own (by omega) (by omega) qOwn rOwn) rfl ?_ | refine EffK_pu e144 (c144 x.Own y.Own (by omega) (by omega) qOwn rOwn) rfl ?_ | refine CCallK_pl e144 (c144 x.Own y.Own (by omega) (by omega) qOwn rOwn) rfl rfl ?_ | refine CCallK_pm e144 (c144 x.Own y.Own (by omega) (by omega) qOwn rOwn) rfl rfl ?_
  refine evl ?_
  repeat ((with_reducible show _ ∧ _); refine scA ?_)
  refine Fin.nt Tryz.results121 [] ?_ ?_ ?_ <;> try trivial
  first | exact True.intro | (refine rsl ?_; try exact True.intro)
  rw [Bool.eq_iff_iff]
  simp only [Lists.eq_iff, decide_eq_true_eq]
  all_goals simp [and_assoc]
theorem c72 (x y : Mem) (hx : x.sok) (hy : y.sok) : Ctr Tryz.prog 72 [.agg ((encMem x).map .dat), .agg ((encMem y).map .dat)] [] (.one (.dat (.bool (decide (x = y))))) [] := by
  have hmx : maxLen = 9223372036854775807 := rfl
  obtain ⟨hHeap, hLists, _⟩ := hx
  obtain ⟨gHeap, gLists, _⟩ := hy
  have sHeap := c120 x.Heap y.Heap hHeap gHeap
  simp only [encHeap, List.map_cons, List.map_nil] at sHeap
  have sLists := c121 x.Lists y.Lists hLists gLists
  simp only [encLists, List.map_cons, List.map_nil] at sLists
  simp only [encMem, List.map_cons, List.map_nil]
  refine Ctr.bd mixed Tryz.func72 rfl ?_
  refine evl ?_
  repeat ((with_reducible show _ ∧ _); refine scA ?_)
  first | refine CallK_pure e120 (sHeap) rfl ?_ | refine EffK_pw e120 (sHeap) rfl ?_ | refine EffK_pu e120 (sHeap) rfl ?_ | refine CCallK_pl e120 (sHeap) rfl rfl ?_ | refine CCallK_pm e120 (sHeap) rfl rfl ?_
  refine evl ?_
  repeat ((with_reducible show _ ∧ _); refine scA ?_)
  first | refine CallK_pure e121 (sLists) rfl ?_ | refine EffK_pw e121 (sLists) rfl ?_ | refine EffK_pu e121 (sLists) rfl ?_ | refine CCallK_pl e121 (sLists) rfl rfl ?_ | refine CCallK_pm e121 (sLists) rfl rfl ?_
  refine evl ?_
  repeat ((with_reducible show _ ∧ _); refine scA ?_)
  refine Fin.nt Tryz.results72 [] ?_ ?_ ?_ <;> try trivial
  first | exact True.intro | (refine rsl ?_; try exact True.intro)
  rw [Bool.eq_iff_iff]
  simp only [Mem.eq_iff, decide_eq_true_eq]
  all_goals simp [and_assoc]
theorem c73 (x y : Clock) (hx : x.sok) (hy : y.sok) : Ctr Tryz.prog 73 [.agg ((encClock x).map .dat), .agg ((encClock y).map .dat)] [] (.one (.dat (.bool (decide (x = y))))) [] := by
  have hmx : maxLen = 9223372036854775807 := rfl
  obtain ⟨a1, _⟩ := hx
  obtain ⟨b1, _⟩ := hy
  simp only [encClock, List.map_cons, List.map_nil]
  refine Ctr.bd mixed Tryz.func73 rfl ?_
  simp (maxSteps := 2000000) only [go_sem, ↓reduceIte, reduceCtorEq, Nat.reduceAdd, Nat.reduceMul, Nat.reduceSub, Nat.reduceLT, Nat.reduceLeDiff, Nat.reduceEqDiff, Int.reduceToNat, Int.reduceLT, Int.reduceLE, Int.reduceNeg, List.length_map]
  repeat ((with_reducible show _ ∧ _); refine scA ?_)
  refine ⟨fun h => ?_, fun h => ?_⟩
  · refine Fin.nt Tryz.results73 [] ?_ ?_ ?_ <;> try trivial
    first | exact True.intro | (refine rsl ?_; try exact True.intro)
    symm; rw [decide_eq_false_iff_not]
    rintro rfl; simp at h
  have hE : x.Epoch = y.Epoch ∧ x.Pins.length = y.Pins.length := by
    by_cases h1 : x.Epoch = y.Epoch
    · simp [h1] at h; exact ⟨h1, by omega⟩
    · simp [h1] at h
  obtain ⟨hE, hlen⟩ := hE
  refine LoopK_intro (fun zn zs => ∃ i : Nat, i ≤ x.Pins.length ∧ zn = x.Pins.length - i ∧ (x.Pins.take i = y.Pins.take i) ∧ zs = mkSt [(5, .one (.dat (.int .i64 i))), (2, .one (.ptr (.own 0 0 0))), (3, .one (.ptr (.own 1 0 0)))] [.box [.dat (.int .i64 x.Epoch), .dat (.sl 4 (x.Pins.map encPin))], .box [.dat (.int .i64 y.Epoch), .dat (.sl 4 (y.Pins.map encPin))]]) (x.Pins.length) _
    (Ent.wk [0, 1]) ⟨0, by omega, by omega, rfl, rfl⟩ ?_
  rintro zn zs ⟨i, hi, rfl, hinv, rfl⟩ K hK
  rcases Nat.lt_or_ge i (x.Pins.length) with hlt | hge
  · have hdi : decide ((i : Int) < ((x.Pins.length : Nat) : Int)) = true := decide_eq_true (by omega)
    have hw := wrap_succ hlt (show x.Pins.length ≤ maxLen by omega)
    have hlt' : i < y.Pins.length := by omega
    simp (maxSteps := 2000000) only [go_sem, ↓reduceIte, reduceCtorEq, Nat.reduceAdd, Nat.reduceMul, Nat.reduceSub, Nat.reduceLT, Nat.reduceLeDiff, Nat.reduceEqDiff, Int.reduceToNat, Int.reduceLT, Int.reduceLE, Int.reduceNeg, hdi, hw, getD_map hlt, getD_map hlt', encPin, List.length_map]
    repeat ((with_reducible show _ ∧ _); refine scA ?_)
    refine ⟨fun hq => ?_, fun hq => ?_⟩
    · have hne : x.Pins[i] ≠ y.Pins[i] := fun e => by rw [e] at hq; simp at hq
      apply hK
      simp (maxSteps := 2000000) only [go_sem, ↓reduceIte, reduceCtorEq, Nat.reduceAdd, Nat.reduceMul, Nat.reduceSub, Nat.reduceLT, Nat.reduceLeDiff, Nat.reduceEqDiff, Int.reduceToNat, Int.reduceLT, Int.reduceLE, Int.reduceNeg, hdi, hw, getD_map hlt, getD_map hlt', encPin, List.length_map]
      refine Fin.nt Tryz.results73 [] ?_ ?_ ?_ <;> try trivial
      first | exact True.intro | (refine rsl ?_; try exact True.intro)
      symm; rw [decide_eq_false_iff_not]
      rintro rfl; exact hne rfl
    · have he : x.Pins[i] = y.Pins[i] := by rw [Pin.eq_iff]; simpa [and_assoc] using hq
      (apply hK
       exact ⟨x.Pins.length - (i + 1), _, by omega, Ent.wk [0, 1], i + 1, by omega, rfl, by rw [List.take_succ_eq_append_getElem hlt, List.take_succ_eq_append_getElem hlt', hinv, he], rfl⟩)
  · have hge' : x.Pins.length = i := by omega
    subst hge'
    have hdi : decide (((x.Pins.length : Nat) : Int) < ((x.Pins.length : Nat) : Int)) = false := by simp
    have ht : x.Pins = y.Pins := by
      rw [List.take_of_length_le (Nat.le_refl _), List.take_of_length_le (by omega)] at hinv
      exact hinv
    clear hinv
    simp (maxSteps := 2000000) only [go_sem, ↓reduceIte, reduceCtorEq, Nat.reduceAdd, Nat.reduceMul, Nat.reduceSub, Nat.reduceLT, Nat.reduceLeDiff, Nat.reduceEqDiff, Int.reduceToNat, Int.reduceLT, Int.reduceLE, Int.reduceNeg, hdi, List.length_map]
    apply hK
    refine evl ?_
    refine Fin.nt Tryz.results73 [] ?_ ?_ ?_ <;> try trivial
    first | exact True.intro | (refine rsl ?_; try exact True.intro)
    symm; rw [decide_eq_true_iff, Clock.eq_iff]
    simp [hE, ht]
theorem c74 (l l' : List LList) (hl : l.length ≤ 1048576) (hl' : l'.length ≤ 1048576) (q : ∀ x ∈ l, x.sok) (r : ∀ x ∈ l', x.sok) : Ctr Tryz.prog 74 [.one (.dat (.sl 1 (l.map encLList))), .one (.dat (.sl 1 (l'.map encLList)))] [] (.one (.dat (.bool (decide (l = l'))))) [] := by
  have hmx : maxLen = 9223372036854775807 := rfl
  refine Ctr.bd mixed Tryz.func74 rfl ?_
  simp (maxSteps := 2000000) only [go_sem, ↓reduceIte, reduceCtorEq, Nat.reduceAdd, Nat.reduceMul, Nat.reduceSub, Nat.reduceLT, Nat.reduceLeDiff, Nat.reduceEqDiff, Int.reduceToNat, Int.reduceLT, Int.reduceLE, Int.reduceNeg, List.length_map]
  repeat ((with_reducible show _ ∧ _); refine scA ?_)
  refine ⟨fun h => ?_, fun h => ?_⟩
  · have hne : l.length ≠ l'.length := by simp at h; omega
    refine Fin.nt Tryz.results74 [] ?_ ?_ ?_ <;> try trivial
    first | exact True.intro | (refine rsl ?_; try exact True.intro)
    symm; rw [decide_eq_false_iff_not]
    intro e; exact hne (by rw [e])
  have hlen : l.length = l'.length := by simp at h; omega
  refine LoopK_intro (fun zn zs => ∃ i : Nat, i ≤ l.length ∧ zn = l.length - i ∧ (l.take i = l'.take i) ∧ zs = mkSt [(5, .one (.dat (.int .i64 i))), (0, .one (.dat (.sl 1 (l.map encLList)))), (1, .one (.dat (.sl 1 (l'.map encLList))))] []) (l.length) _
    (Ent.wk []) ⟨0, by omega, by omega, rfl, rfl⟩ ?_
  rintro zn zs ⟨i, hi, rfl, hinv, rfl⟩ K hK
  rcases Nat.lt_or_ge i (l.length) with hlt | hge
  · have hdi : decide ((i : Int) < ((l.length : Nat) : Int)) = true := decide_eq_true (by omega)
    have hw := wrap_succ hlt (show l.length ≤ maxLen by omega)
    have hlt' : i < l'.length := by omega
    obtain ⟨a1, _⟩ := q l[i] (List.getElem_mem hlt)
    obtain ⟨b1, _⟩ := r l'[i] (List.getElem_mem hlt')
    have hti := List.take_succ_eq_append_getElem hlt
    have hti' := List.take_succ_eq_append_getElem hlt'
    have hmem : l = l' → l[i] = l'[i] := fun e => by subst e; rfl
    have hgl := getD_map (f := encLList) hlt
    have hgl' := getD_map (f := encLList) hlt'
    generalize l[i] = x at a1 hti hmem hgl ⊢
    generalize l'[i] = y at b1 hti' hmem hgl' ⊢
    simp (maxSteps := 2000000) only [go_sem, ↓reduceIte, reduceCtorEq, Nat.reduceAdd, Nat.reduceMul, Nat.reduceSub, Nat.reduceLT, Nat.reduceLeDiff, Nat.reduceEqDiff, Int.reduceToNat, Int.reduceLT, Int.reduceLE, Int.reduceNeg, hdi, hw, hgl, hgl', encLList, List.length_map]
    repeat ((with_reducible show _ ∧ _); refine scA ?_)
    refine ⟨fun hq => ?_, fun hq => ?_⟩
    · apply hK
      simp (maxSteps := 2000000) only [go_sem, ↓reduceIte, reduceCtorEq, Nat.reduceAdd, Nat.reduceMul, Nat.reduceSub, Nat.reduceLT, Nat.reduceLeDiff, Nat.reduceEqDiff, Int.reduceToNat, Int.reduceLT, Int.reduceLE, Int.reduceNeg, hdi, hw, hgl, hgl', encLList, List.length_map]
      refine Fin.nt Tryz.results74 [] ?_ ?_ ?_ <;> try trivial
      first | exact True.intro | (refine rsl ?_; try exact True.intro)
      symm; rw [decide_eq_false_iff_not]
      intro e; rw [hmem e] at hq; simp at hq
    have hlx : x.Rows.length = y.Rows.length := by simp at hq; omega
    clear hq
    refine LoopK_intro (fun zn zs => ∃ k : Nat, k ≤ x.Rows.length ∧ zn = x.Rows.length - k ∧ (x.Rows.take k = y.Rows.take k) ∧ zs = mkSt [(6, .one (.dat (.int .i64 k))), (5, .one (.dat (.int .i64 i))), (0, .one (.dat (.sl 1 (l.map encLList)))), (1, .one (.dat (.sl 1 (l'.map encLList))))] []) (x.Rows.length) _
      (Ent.wk []) ⟨0, by omega, by omega, rfl, rfl⟩ ?_
    rintro zn zs ⟨k, hi2, rfl, hinv2, rfl⟩ K2 hK2
    rcases Nat.lt_or_ge k (x.Rows.length) with hlt2 | hge2
    · have hdi2 : decide ((k : Int) < ((x.Rows.length : Nat) : Int)) = true := decide_eq_true (by omega)
      have hw2 := wrap_succ hlt2 (show x.Rows.length ≤ maxLen by omega)
      have hlt2' : k < y.Rows.length := by omega
      simp (maxSteps := 2000000) only [go_sem, ↓reduceIte, reduceCtorEq, Nat.reduceAdd, Nat.reduceMul, Nat.reduceSub, Nat.reduceLT, Nat.reduceLeDiff, Nat.reduceEqDiff, Int.reduceToNat, Int.reduceLT, Int.reduceLE, Int.reduceNeg, hdi2, hw2, hgl, hgl', encLList, getD_map hlt2, getD_map hlt2', encLRow, List.length_map]
      repeat ((with_reducible show _ ∧ _); refine scA ?_)
      refine ⟨fun hq => ?_, fun hq => ?_⟩
      · have hne : x.Rows[k] ≠ y.Rows[k] := fun e => by rw [e] at hq; simp at hq
        apply hK2
        simp (maxSteps := 2000000) only [go_sem, ↓reduceIte, reduceCtorEq, Nat.reduceAdd, Nat.reduceMul, Nat.reduceSub, Nat.reduceLT, Nat.reduceLeDiff, Nat.reduceEqDiff, Int.reduceToNat, Int.reduceLT, Int.reduceLE, Int.reduceNeg, hdi2, hw2, hgl, hgl', encLList, getD_map hlt2, getD_map hlt2', encLRow, List.length_map]
        apply hK
        simp (maxSteps := 2000000) only [go_sem, ↓reduceIte, reduceCtorEq, Nat.reduceAdd, Nat.reduceMul, Nat.reduceSub, Nat.reduceLT, Nat.reduceLeDiff, Nat.reduceEqDiff, Int.reduceToNat, Int.reduceLT, Int.reduceLE, Int.reduceNeg, hdi2, hw2, hgl, hgl', encLList, getD_map hlt2, getD_map hlt2', encLRow, List.length_map]
        refine Fin.nt Tryz.results74 [] ?_ ?_ ?_ <;> try trivial
        first | exact True.intro | (refine rsl ?_; try exact True.intro)
        symm; rw [decide_eq_false_iff_not]
        intro e
        have e2 := hmem e
        subst e2; exact hne rfl
      · have he : x.Rows[k] = y.Rows[k] := by rw [LRow.eq_iff]; simpa [and_assoc] using hq
        (apply hK2
         exact ⟨x.Rows.length - (k + 1), _, by omega, Ent.wk [], k + 1, by omega, rfl, by rw [List.take_succ_eq_append_getElem hlt2, List.take_succ_eq_append_getElem hlt2', hinv2, he], rfl⟩)
    · have hge2' : x.Rows.length = k := by omega
      subst hge2'
      have hdi2 : decide (((x.Rows.length : Nat) : Int) < ((x.Rows.length : Nat) : Int)) = false := by simp
      have hxy : x = y := by
        rw [List.take_of_length_le (Nat.le_refl _), List.take_of_length_le (by omega)] at hinv2
        rw [LList.eq_iff]; exact hinv2
      clear hinv2
      simp (maxSteps := 2000000) only [go_sem, ↓reduceIte, reduceCtorEq, Nat.reduceAdd, Nat.reduceMul, Nat.reduceSub, Nat.reduceLT, Nat.reduceLeDiff, Nat.reduceEqDiff, Int.reduceToNat, Int.reduceLT, Int.reduceLE, Int.reduceNeg, hdi2, hgl, hgl', encLList, List.length_map]
      repeat ((with_reducible show _ ∧ _); refine scA ?_)
      apply hK2
      simp (maxSteps := 2000000) only [go_sem, ↓reduceIte, reduceCtorEq, Nat.reduceAdd, Nat.reduceMul, Nat.reduceSub, Nat.reduceLT, Nat.reduceLeDiff, Nat.reduceEqDiff, Int.reduceToNat, Int.reduceLT, Int.reduceLE, Int.reduceNeg, hw]
      (apply hK
       exact ⟨l.length - (i + 1), _, by omega, Ent.wk [], i + 1, by omega, rfl, by rw [hti, hti', hinv, hxy], rfl⟩)
  · have hge' : l.length = i := by omega
    subst hge'
    have hdi : decide (((l.length : Nat) : Int) < ((l.length : Nat) : Int)) = false := by simp
    have ht : l = l' := by
      rw [List.take_of_length_le (Nat.le_refl _), List.take_of_length_le (by omega)] at hinv
      exact hinv
    clear hinv
    simp (maxSteps := 2000000) only [go_sem, ↓reduceIte, reduceCtorEq, Nat.reduceAdd, Nat.reduceMul, Nat.reduceSub, Nat.reduceLT, Nat.reduceLeDiff, Nat.reduceEqDiff, Int.reduceToNat, Int.reduceLT, Int.reduceLE, Int.reduceNeg, hdi, List.length_map]
    apply hK
    refine evl ?_
    refine Fin.nt Tryz.results74 [] ?_ ?_ ?_ <;> try trivial
    first | exact True.intro | (refine rsl ?_; try exact True.intro)
    symm; rw [decide_eq_true_iff]
    exact ht
theorem c31 (x y : Base) (hx : x.sok) (hy : y.sok) : Ctr Tryz.prog 31 [.agg ((encBase x).map .dat), .agg ((encBase y).map .dat)] [] (.one (.dat (.bool (decide (x = y))))) [] := by
  have hmx : maxLen = 9223372036854775807 := rfl
  obtain ⟨hMem, hClock, a1, a2, a3, _⟩ := hx
  obtain ⟨gMem, gClock, b1, b2, b3, _⟩ := hy
  have sMem := c72 x.Mem y.Mem hMem gMem
  simp only [encMem, List.map_cons, List.map_nil] at sMem
  have sClock := c73 x.Clock y.Clock hClock gClock
  simp only [encClock, List.map_cons, List.map_nil] at sClock
  simp only [encBase, List.map_cons, List.map_nil]
  refine Ctr.bd mixed Tryz.func31 rfl ?_
  refine evl ?_
  repeat ((with_reducible show _ ∧ _); refine scA ?_)
  first | refine CallK_pure e72 (sMem) rfl ?_ | refine EffK_pw e72 (sMem) rfl ?_ | refine EffK_pu e72 (sMem) rfl ?_ | refine CCallK_pl e72 (sMem) rfl rfl ?_ | refine CCallK_pm e72 (sMem) rfl rfl ?_
  refine evl ?_
  repeat ((with_reducible show _ ∧ _); refine scA ?_)
  first | refine CallK_pure e73 (sClock) rfl ?_ | refine EffK_pw e73 (sClock) rfl ?_ | refine EffK_pu e73 (sClock) rfl ?_ | refine CCallK_pl e73 (sClock) rfl rfl ?_ | refine CCallK_pm e73 (sClock) rfl rfl ?_
  refine evl ?_
  repeat ((with_reducible show _ ∧ _); refine scA ?_)
  first | refine CallK_pure e74 (c74 x.Limbo y.Limbo a1 b1 a2 b2) rfl ?_ | refine EffK_pw e74 (c74 x.Limbo y.Limbo a1 b1 a2 b2) rfl ?_ | refine EffK_pu e74 (c74 x.Limbo y.Limbo a1 b1 a2 b2) rfl ?_ | refine CCallK_pl e74 (c74 x.Limbo y.Limbo a1 b1 a2 b2) rfl rfl ?_ | refine CCallK_pm e74 (c74 x.Limbo y.Limbo a1 b1 a2 b2) rfl rfl ?_
  refine evl ?_
  repeat ((with_reducible show _ ∧ _); refine scA ?_)
  first | refine CallK_pure e75 (c75 x.Haz y.Haz (by omega) (by omega)) rfl ?_ | refine EffK_pw e75 (c75 x.Haz y.Haz (by omega) (by omega)) rfl ?_ | refine EffK_pu e75 (c75 x.Haz y.Haz (by omega) (by omega)) rfl ?_ | refine CCallK_pl e75 (c75 x.Haz y.Haz (by omega) (by omega)) rfl rfl ?_ | refine CCallK_pm e75 (c75 x.Haz y.Haz (by omega) (by omega)) rfl rfl ?_
  refine evl ?_
  repeat ((with_reducible show _ ∧ _); refine scA ?_)
  refine Fin.nt Tryz.results31 [] ?_ ?_ ?_ <;> try trivial
  first | exact True.intro | (refine rsl ?_; try exact True.intro)
  rw [Bool.eq_iff_iff]
  simp only [Base.eq_iff, decide_eq_true_eq]
  all_goals simp [and_assoc]
theorem c76 (x y : Batch) (hx : x.sok) (hy : y.sok) : Ctr Tryz.prog 76 [.agg ((encBatch x).map .dat), .agg ((encBatch y).map .dat)] [] (.one (.dat (.bool (decide (x = y))))) [] := by
  have hmx : maxLen = 9223372036854775807 := rfl
  obtain ⟨a1, _⟩ := hx
  obtain ⟨b1, _⟩ := hy
  simp only [encBatch, List.map_cons, List.map_nil]
  refine Ctr.bd mixed Tryz.func76 rfl ?_
  refine evl ?_
  repeat ((with_reducible show _ ∧ _); refine scA ?_)
  first | refine CallK_pure e77 (c77 x.Cmds y.Cmds (by omega) (by omega)) rfl ?_ | refine EffK_pw e77 (c77 x.Cmds y.Cmds (by omega) (by omega)) rfl ?_ | refine EffK_pu e77 (c77 x.Cmds y.Cmds (by omega) (by omega)) rfl ?_ | refine CCallK_pl e77 (c77 x.Cmds y.Cmds (by omega) (by omega)) rfl rfl ?_ | refine CCallK_pm e77 (c77 x.Cmds y.Cmds (by omega) (by omega)) rfl rfl ?_
  refine evl ?_
  repeat ((with_reducible show _ ∧ _); refine scA ?_)
  refine Fin.nt Tryz.results76 [] ?_ ?_ ?_ <;> try trivial
  first | exact True.intro | (refine rsl ?_; try exact True.intro)
  rw [Bool.eq_iff_iff]
  simp only [Batch.eq_iff, decide_eq_true_eq]
  all_goals simp [and_assoc]
theorem c79 (x y : TJob) (hx : x.sok) (hy : y.sok) : Ctr Tryz.prog 79 [.agg ((encTJob x).map .dat), .agg ((encTJob y).map .dat)] [] (.one (.dat (.bool (decide (x.Reads = y.Reads ∧ x.Writes = y.Writes))))) [] := by
  have hmx : maxLen = 9223372036854775807 := rfl
  obtain ⟨_, a1, a2, _⟩ := hx
  obtain ⟨_, b1, b2, _⟩ := hy
  simp only [encTJob, List.map_cons, List.map_nil]
  refine Ctr.bd mixed Tryz.func79 rfl ?_
  simp (maxSteps := 2000000) only [go_sem, ↓reduceIte, reduceCtorEq, Nat.reduceAdd, Nat.reduceMul, Nat.reduceSub, Nat.reduceLT, Nat.reduceLeDiff, Nat.reduceEqDiff, Int.reduceToNat, Int.reduceLT, Int.reduceLE, Int.reduceNeg, List.length_map]
  repeat ((with_reducible show _ ∧ _); refine scA ?_)
  refine ⟨fun h => ?_, fun h => ?_⟩
  · refine Fin.nt Tryz.results79 [] ?_ ?_ ?_ <;> try trivial
    first | exact True.intro | (refine rsl ?_; try exact True.intro)
    symm; rw [decide_eq_false_iff_not]
    rintro ⟨e1, e2⟩; rw [e1, e2] at h; simp at h
  have hE : x.Reads.length = y.Reads.length ∧ x.Writes.length = y.Writes.length := by
    by_cases h1 : x.Reads.length = y.Reads.length
    · simp [h1] at h; exact ⟨h1, by omega⟩
    · have : ¬ (x.Reads.length : Int) = y.Reads.length := by omega
      simp [this] at h
  obtain ⟨hlr, hlw⟩ := hE
  refine LoopK_intro (fun zn zs => ∃ i : Nat, i ≤ x.Reads.length ∧ zn = x.Reads.length - i ∧ (x.Reads.take i = y.Reads.take i) ∧ zs = mkSt [(5, .one (.dat (.int .i64 i))), (2, .one (.ptr (.own 0 0 0))), (3, .one (.ptr (.own 1 0 0)))] [.box [.dat (.bool x.Busy), .dat (.bool x.Batch.Collect), .dat (.sl 3 (x.Batch.Cmds.map encCmd)), .dat (.int .i64 x.Serial), .dat (.int .i64 x.Pc), .dat (.int .i64 x.At), .dat (.int .i64 x.K), .dat (.int .i64 x.Bkt), .dat (.int .i64 x.Ver), .dat (.int .i64 x.H), .dat (.int .i64 x.Prev), .dat (.int .i64 x.Node.Key), .dat (.int .i64 x.Node.Val), .dat (.int .i64 x.Node.Next), .dat (.bool x.Found), .dat (.int .i64 x.Code), .dat (.int .i64 x.Sub.Kind), .dat (.int .i64 x.Sub.A), .dat (.int .i64 x.Sub.Pc), .dat (.int .i64 x.Sub.E), .dat (.int .i64 x.Sub.Row), .dat (.int .i64 x.Sub.B), .dat (.int .i64 x.Sub.H), .dat (.int .i64 x.Sub.Out), .dat (.int .i64 x.Sub.Code), .dat (.bool x.Sub.Done), .dat (.sl 2 (x.Reads.map encSeen)), .dat (.sl 3 (x.Writes.map encWrite)), .dat (.sl 2 (x.Res.map encRes)), .dat (.sl 1 (x.New.map encI)), .dat (.sl 1 (x.Held.map encI)), .dat (.sl 1 (x.Olds.map encI))], .box [.dat (.bool y.Busy), .dat (.bool y.Batch.Collect), .dat (.sl 3 (y.Batch.Cmds.map encCmd)), .dat (.int .i64 y.Serial), .dat (.int .i64 y.Pc), .dat (.int .i64 y.At), .dat (.int .i64 y.K), .dat (.int .i64 y.Bkt), .dat (.int .i64 y.Ver), .dat (.int .i64 y.H), .dat (.int .i64 y.Prev), .dat (.int .i64 y.Node.Key), .dat (.int .i64 y.Node.Val), .dat (.int .i64 y.Node.Next), .dat (.bool y.Found), .dat (.int .i64 y.Code), .dat (.int .i64 y.Sub.Kind), .dat (.int .i64 y.Sub.A), .dat (.int .i64 y.Sub.Pc), .dat (.int .i64 y.Sub.E), .dat (.int .i64 y.Sub.Row), .dat (.int .i64 y.Sub.B), .dat (.int .i64 y.Sub.H), .dat (.int .i64 y.Sub.Out), .dat (.int .i64 y.Sub.Code), .dat (.bool y.Sub.Done), .dat (.sl 2 (y.Reads.map encSeen)), .dat (.sl 3 (y.Writes.map encWrite)), .dat (.sl 2 (y.Res.map encRes)), .dat (.sl 1 (y.New.map encI)), .dat (.sl 1 (y.Held.map encI)), .dat (.sl 1 (y.Olds.map encI))]]) (x.Reads.length) _
    (Ent.wk [0, 1]) ⟨0, by omega, by omega, rfl, rfl⟩ ?_
  rintro zn zs ⟨i, hi, rfl, hinv, rfl⟩ K hK
  rcases Nat.lt_or_ge i (x.Reads.length) with hlt | hge
  · have hdi : decide ((i : Int) < ((x.Reads.length : Nat) : Int)) = true := decide_eq_true (by omega)
    have hw := wrap_succ hlt (show x.Reads.length ≤ maxLen by omega)
    have hlt' : i < y.Reads.length := by omega
    simp (maxSteps := 2000000) only [go_sem, ↓reduceIte, reduceCtorEq, Nat.reduceAdd, Nat.reduceMul, Nat.reduceSub, Nat.reduceLT, Nat.reduceLeDiff, Nat.reduceEqDiff, Int.reduceToNat, Int.reduceLT, Int.reduceLE, Int.reduceNeg, hdi, hw, getD_map hlt, getD_map hlt', encSeen, List.length_map]
    repeat ((with_reducible show _ ∧ _); refine scA ?_)
    refine ⟨fun hq => ?_, fun hq => ?_⟩
    · have hne : x.Reads[i] ≠ y.Reads[i] := fun e => by rw [e] at hq; simp at hq
      apply hK
      simp (maxSteps := 2000000) only [go_sem, ↓reduceIte, reduceCtorEq, Nat.reduceAdd, Nat.reduceMul, Nat.reduceSub, Nat.reduceLT, Nat.reduceLeDiff, Nat.reduceEqDiff, Int.reduceToNat, Int.reduceLT, Int.reduceLE, Int.reduceNeg, hdi, hw, getD_map hlt, getD_map hlt', encSeen, List.length_map]
      refine Fin.nt Tryz.results79 [] ?_ ?_ ?_ <;> try trivial
      first | exact True.intro | (refine rsl ?_; try exact True.intro)
      symm; rw [decide_eq_false_iff_not]
      rintro ⟨e1, e2⟩; exact hne (by simp only [e1])
    · have he : x.Reads[i] = y.Reads[i] := by rw [Seen.eq_iff]; simpa [and_assoc] using hq
      (apply hK
       exact ⟨x.Reads.length - (i + 1), _, by omega, Ent.wk [0, 1], i + 1, by omega, rfl, by rw [List.take_succ_eq_append_getElem hlt, List.take_succ_eq_append_getElem hlt', hinv, he], rfl⟩)
  · have hge' : x.Reads.length = i := by omega
    subst hge'
    have hdi : decide (((x.Reads.length : Nat) : Int) < ((x.Reads.length : Nat) : Int)) = false := by simp
    have htReads : x.Reads = y.Reads := by
      rw [List.take_of_length_le (Nat.le_refl _), List.take_of_length_le (by omega)] at hinv
      exact hinv
    clear hinv
    simp (maxSteps := 2000000) only [go_sem, ↓reduceIte, reduceCtorEq, Nat.reduceAdd, Nat.reduceMul, Nat.reduceSub, Nat.reduceLT, Nat.reduceLeDiff, Nat.reduceEqDiff, Int.reduceToNat, Int.reduceLT, Int.reduceLE, Int.reduceNeg, hdi, List.length_map]
    apply hK
    refine evl ?_
    refine LoopK_intro (fun zn zs => ∃ i : Nat, i ≤ x.Writes.length ∧ zn = x.Writes.length - i ∧ (x.Writes.take i = y.Writes.take i) ∧ zs = mkSt [(6, .one (.dat (.int .i64 i))), (2, .one (.ptr (.own 0 0 0))), (3, .one (.ptr (.own 1 0 0)))] [.box [.dat (.bool x.Busy), .dat (.bool x.Batch.Collect), .dat (.sl 3 (x.Batch.Cmds.map encCmd)), .dat (.int .i64 x.Serial), .dat (.int .i64 x.Pc), .dat (.int .i64 x.At), .dat (.int .i64 x.K), .dat (.int .i64 x.Bkt), .dat (.int .i64 x.Ver), .dat (.int .i64 x.H), .dat (.int .i64 x.Prev), .dat (.int .i64 x.Node.Key), .dat (.int .i64 x.Node.Val), .dat (.int .i64 x.Node.Next), .dat (.bool x.Found), .dat (.int .i64 x.Code), .dat (.int .i64 x.Sub.Kind), .dat (.int .i64 x.Sub.A), .dat (.int .i64 x.Sub.Pc), .dat (.int .i64 x.Sub.E), .dat (.int .i64 x.Sub.Row), .dat (.int .i64 x.Sub.B), .dat (.int .i64 x.Sub.H), .dat (.int .i64 x.Sub.Out), .dat (.int .i64 x.Sub.Code), .dat (.bool x.Sub.Done), .dat (.sl 2 (x.Reads.map encSeen)), .dat (.sl 3 (x.Writes.map encWrite)), .dat (.sl 2 (x.Res.map encRes)), .dat (.sl 1 (x.New.map encI)), .dat (.sl 1 (x.Held.map encI)), .dat (.sl 1 (x.Olds.map encI))], .box [.dat (.bool y.Busy), .dat (.bool y.Batch.Collect), .dat (.sl 3 (y.Batch.Cmds.map encCmd)), .dat (.int .i64 y.Serial), .dat (.int .i64 y.Pc), .dat (.int .i64 y.At), .dat (.int .i64 y.K), .dat (.int .i64 y.Bkt), .dat (.int .i64 y.Ver), .dat (.int .i64 y.H), .dat (.int .i64 y.Prev), .dat (.int .i64 y.Node.Key), .dat (.int .i64 y.Node.Val), .dat (.int .i64 y.Node.Next), .dat (.bool y.Found), .dat (.int .i64 y.Code), .dat (.int .i64 y.Sub.Kind), .dat (.int .i64 y.Sub.A), .dat (.int .i64 y.Sub.Pc), .dat (.int .i64 y.Sub.E), .dat (.int .i64 y.Sub.Row), .dat (.int .i64 y.Sub.B), .dat (.int .i64 y.Sub.H), .dat (.int .i64 y.Sub.Out), .dat (.int .i64 y.Sub.Code), .dat (.bool y.Sub.Done), .dat (.sl 2 (y.Reads.map encSeen)), .dat (.sl 3 (y.Writes.map encWrite)), .dat (.sl 2 (y.Res.map encRes)), .dat (.sl 1 (y.New.map encI)), .dat (.sl 1 (y.Held.map encI)), .dat (.sl 1 (y.Olds.map encI))]]) (x.Writes.length) _
      (Ent.wk [0, 1]) ⟨0, by omega, by omega, rfl, rfl⟩ ?_
    rintro zn zs ⟨i, hi, rfl, hinv, rfl⟩ K hK
    rcases Nat.lt_or_ge i (x.Writes.length) with hlt | hge
    · have hdi : decide ((i : Int) < ((x.Writes.length : Nat) : Int)) = true := decide_eq_true (by omega)
      have hw := wrap_succ hlt (show x.Writes.length ≤ maxLen by omega)
      have hlt' : i < y.Writes.length := by omega
      simp (maxSteps := 2000000) only [go_sem, ↓reduceIte, reduceCtorEq, Nat.reduceAdd, Nat.reduceMul, Nat.reduceSub, Nat.reduceLT, Nat.reduceLeDiff, Nat.reduceEqDiff, Int.reduceToNat, Int.reduceLT, Int.reduceLE, Int.reduceNeg, hdi, hw, getD_map hlt, getD_map hlt', encWrite, List.length_map]
      repeat ((with_reducible show _ ∧ _); refine scA ?_)
      refine ⟨fun hq => ?_, fun hq => ?_⟩
      · have hne : x.Writes[i] ≠ y.Writes[i] := fun e => by rw [e] at hq; simp at hq
        apply hK
        simp (maxSteps := 2000000) only [go_sem, ↓reduceIte, reduceCtorEq, Nat.reduceAdd, Nat.reduceMul, Nat.reduceSub, Nat.reduceLT, Nat.reduceLeDiff, Nat.reduceEqDiff, Int.reduceToNat, Int.reduceLT, Int.reduceLE, Int.reduceNeg, hdi, hw, getD_map hlt, getD_map hlt', encWrite, List.length_map]
        refine Fin.nt Tryz.results79 [] ?_ ?_ ?_ <;> try trivial
        first | exact True.intro | (refine rsl ?_; try exact True.intro)
        symm; rw [decide_eq_false_iff_not]
        rintro ⟨e1, e2⟩; exact hne (by simp only [e2])
      · have he : x.Writes[i] = y.Writes[i] := by rw [Write.eq_iff]; simpa [and_assoc] using hq
        (apply hK
         exact ⟨x.Writes.length - (i + 1), _, by omega, Ent.wk [0, 1], i + 1, by omega, rfl, by rw [List.take_succ_eq_append_getElem hlt, List.take_succ_eq_append_getElem hlt', hinv, he], rfl⟩)
    · have hge' : x.Writes.length = i := by omega
      subst hge'
      have hdi : decide (((x.Writes.length : Nat) : Int) < ((x.Writes.length : Nat) : Int)) = false := by simp
      have htWrites : x.Writes = y.Writes := by
        rw [List.take_of_length_le (Nat.le_refl _), List.take_of_length_le (by omega)] at hinv
        exact hinv
      clear hinv
      simp (maxSteps := 2000000) only [go_sem, ↓reduceIte, reduceCtorEq, Nat.reduceAdd, Nat.reduceMul, Nat.reduceSub, Nat.reduceLT, Nat.reduceLeDiff, Nat.reduceEqDiff, Int.reduceToNat, Int.reduceLT, Int.reduceLE, Int.reduceNeg, hdi, List.length_map]
      apply hK
      refine evl ?_
      refine Fin.nt Tryz.results79 [] ?_ ?_ ?_ <;> try trivial
      first | exact True.intro | (refine rsl ?_; try exact True.intro)
      symm; rw [decide_eq_true_iff]
      exact ⟨htReads, htWrites⟩
theorem c34 (x y : TJob) (hx : x.sok) (hy : y.sok) : Ctr Tryz.prog 34 [.agg ((encTJob x).map .dat), .agg ((encTJob y).map .dat)] [] (.one (.dat (.bool (decide (x = y))))) [] := by
  have hmx : maxLen = 9223372036854775807 := rfl
  have sSets := c79 x y hx hy
  simp only [encTJob, List.map_cons, List.map_nil] at sSets
  obtain ⟨hBatch, a1, a2, a3, a4, a5, a6, _⟩ := hx
  obtain ⟨gBatch, b1, b2, b3, b4, b5, b6, _⟩ := hy
  have sBatch := c76 x.Batch y.Batch hBatch gBatch
  simp only [encBatch, List.map_cons, List.map_nil] at sBatch
  simp only [encTJob, List.map_cons, List.map_nil]
  refine Ctr.bd mixed Tryz.func34 rfl ?_
  simp (maxSteps := 2000000) only [go_sem, ↓reduceIte, reduceCtorEq, Nat.reduceAdd, Nat.reduceMul, Nat.reduceSub, Nat.reduceLT, Nat.reduceLeDiff, Nat.reduceEqDiff, Int.reduceToNat, Int.reduceLT, Int.reduceLE, Int.reduceNeg, List.append_eq]
  repeat ((with_reducible show _ ∧ _); refine scA ?_)
  first | refine CallK_pure e76 (sBatch) rfl ?_ | refine EffK_pw e76 (sBatch) rfl ?_ | refine EffK_pu e76 (sBatch) rfl ?_ | refine CCallK_pl e76 (sBatch) rfl rfl ?_ | refine CCallK_pm e76 (sBatch) rfl rfl ?_
  simp (maxSteps := 2000000) only [go_sem, ↓reduceIte, reduceCtorEq, Nat.reduceAdd, Nat.reduceMul, Nat.reduceSub, Nat.reduceLT, Nat.reduceLeDiff, Nat.reduceEqDiff, Int.reduceToNat, Int.reduceLT, Int.reduceLE, Int.reduceNeg, List.append_eq]
  repeat ((with_reducible show _ ∧ _); refine scA ?_)
  first | refine CallK_pure e79 (sSets) rfl ?_ | refine EffK_pw e79 (sSets) rfl ?_ | refine EffK_pu e79 (sSets) rfl ?_ | refine CCallK_pl e79 (sSets) rfl rfl ?_ | refine CCallK_pm e79 (sSets) rfl rfl ?_
  simp (maxSteps := 2000000) only [go_sem, ↓reduceIte, reduceCtorEq, Nat.reduceAdd, Nat.reduceMul, Nat.reduceSub, Nat.reduceLT, Nat.reduceLeDiff, Nat.reduceEqDiff, Int.reduceToNat, Int.reduceLT, Int.reduceLE, Int.reduceNeg, List.append_eq]
  repeat ((with_reducible show _ ∧ _); refine scA ?_)
  first | refine CallK_pure e78 (c78 x.Res y.Res (by omega) (by omega)) rfl ?_ | refine EffK_pw e78 (c78 x.Res y.Res (by omega) (by omega)) rfl ?_ | refine EffK_pu e78 (c78 x.Res y.Res (by omega) (by omega)) rfl ?_ | refine CCallK_pl e78 (c78 x.Res y.Res (by omega) (by omega)) rfl rfl ?_ | refine CCallK_pm e78 (c78 x.Res y.Res (by omega) (by omega)) rfl rfl ?_
  simp (maxSteps := 2000000) only [go_sem, ↓reduceIte, reduceCtorEq, Nat.reduceAdd, Nat.reduceMul, Nat.reduceSub, Nat.reduceLT, Nat.reduceLeDiff, Nat.reduceEqDiff, Int.reduceToNat, Int.reduceLT, Int.reduceLE, Int.reduceNeg, List.append_eq]
  repeat ((with_reducible show _ ∧ _); refine scA ?_)
  first | refine CallK_pure e75 (c75 x.New y.New (by omega) (by omega)) rfl ?_ | refine EffK_pw e75 (c75 x.New y.New (by omega) (by omega)) rfl ?_ | refine EffK_pu e75 (c75 x.New y.New (by omega) (by omega)) rfl ?_ | refine CCallK_pl e75 (c75 x.New y.New (by omega) (by omega)) rfl rfl ?_ | refine CCallK_pm e75 (c75 x.New y.New (by omega) (by omega)) rfl rfl ?_
  simp (maxSteps := 2000000) only [go_sem, ↓reduceIte, reduceCtorEq, Nat.reduceAdd, Nat.reduceMul, Nat.reduceSub, Nat.reduceLT, Nat.reduceLeDiff, Nat.reduceEqDiff, Int.reduceToNat, Int.reduceLT, Int.reduceLE, Int.reduceNeg, List.append_eq]
  repeat ((with_reducible show _ ∧ _); refine scA ?_)
  first | refine CallK_pure e75 (c75 x.Held y.Held (by omega) (by omega)) rfl ?_ | refine EffK_pw e75 (c75 x.Held y.Held (by omega) (by omega)) rfl ?_ | refine EffK_pu e75 (c75 x.Held y.Held (by omega) (by omega)) rfl ?_ | refine CCallK_pl e75 (c75 x.Held y.Held (by omega) (by omega)) rfl rfl ?_ | refine CCallK_pm e75 (c75 x.Held y.Held (by omega) (by omega)) rfl rfl ?_
  simp (maxSteps := 2000000) only [go_sem, ↓reduceIte, reduceCtorEq, Nat.reduceAdd, Nat.reduceMul, Nat.reduceSub, Nat.reduceLT, Nat.reduceLeDiff, Nat.reduceEqDiff, Int.reduceToNat, Int.reduceLT, Int.reduceLE, Int.reduceNeg, List.append_eq]
  repeat ((with_reducible show _ ∧ _); refine scA ?_)
  first | refine CallK_pure e75 (c75 x.Olds y.Olds (by omega) (by omega)) rfl ?_ | refine EffK_pw e75 (c75 x.Olds y.Olds (by omega) (by omega)) rfl ?_ | refine EffK_pu e75 (c75 x.Olds y.Olds (by omega) (by omega)) rfl ?_ | refine CCallK_pl e75 (c75 x.Olds y.Olds (by omega) (by omega)) rfl rfl ?_ | refine CCallK_pm e75 (c75 x.Olds y.Olds (by omega) (by omega)) rfl rfl ?_
  simp (maxSteps := 2000000) only [go_sem, ↓reduceIte, reduceCtorEq, Nat.reduceAdd, Nat.reduceMul, Nat.reduceSub, Nat.reduceLT, Nat.reduceLeDiff, Nat.reduceEqDiff, Int.reduceToNat, Int.reduceLT, Int.reduceLE, Int.reduceNeg, List.append_eq]
  repeat ((with_reducible show _ ∧ _); refine scA ?_)
  refine Fin.nt Tryz.results34 [] ?_ ?_ ?_ <;> try trivial
  first | exact True.intro | (refine rsl ?_; try exact True.intro)
  rw [Bool.eq_iff_iff]
  simp only [TJob.eq_iff, decide_eq_true_eq]
  all_goals simp [and_assoc, Node.eq_iff, Sub.eq_iff]
theorem c32 (l l' : List TQueue) (hl : l.length ≤ 1048576) (hl' : l'.length ≤ 1048576) (q : ∀ x ∈ l, x.sok) (r : ∀ x ∈ l', x.sok) : Ctr Tryz.prog 32 [.one (.dat (.sl 1 (l.map encTQueue))), .one (.dat (.sl 1 (l'.map encTQueue)))] [] (.one (.dat (.bool (decide (l = l'))))) [] := by
  have hmx : maxLen = 9223372036854775807 := rfl
  refine Ctr.bd mixed Tryz.func32 rfl ?_
  simp (maxSteps := 2000000) only [go_sem, ↓reduceIte, reduceCtorEq, Nat.reduceAdd, Nat.reduceMul, Nat.reduceSub, Nat.reduceLT, Nat.reduceLeDiff, Nat.reduceEqDiff, Int.reduceToNat, Int.reduceLT, Int.reduceLE, Int.reduceNeg, List.length_map]
  repeat ((with_reducible show _ ∧ _); refine scA ?_)
  refine ⟨fun h => ?_, fun h => ?_⟩
  · have hne : l.length ≠ l'.length := by simp at h; omega
    refine Fin.nt Tryz.results32 [] ?_ ?_ ?_ <;> try trivial
    first | exact True.intro | (refine rsl ?_; try exact True.intro)
    symm; rw [decide_eq_false_iff_not]
    intro e; exact hne (by rw [e])
  have hlen : l.length = l'.length := by simp at h; omega
  refine LoopK_intro (fun zn zs => ∃ i : Nat, i ≤ l.length ∧ zn = l.length - i ∧ (l.take i = l'.take i) ∧ zs = mkSt [(5, .one (.dat (.int .i64 i))), (0, .one (.dat (.sl 1 (l.map encTQueue)))), (1, .one (.dat (.sl 1 (l'.map encTQueue))))] []) (l.length) _
    (Ent.wk []) ⟨0, by omega, by omega, rfl, rfl⟩ ?_
  rintro zn zs ⟨i, hi, rfl, hinv, rfl⟩ K hK
  rcases Nat.lt_or_ge i (l.length) with hlt | hge
  · have hdi : decide ((i : Int) < ((l.length : Nat) : Int)) = true := decide_eq_true (by omega)
    have hw := wrap_succ hlt (show l.length ≤ maxLen by omega)
    have hlt' : i < l'.length := by omega
    obtain ⟨a1, qx, _⟩ := q l[i] (List.getElem_mem hlt)
    obtain ⟨b1, qy, _⟩ := r l'[i] (List.getElem_mem hlt')
    have hti := List.take_succ_eq_append_getElem hlt
    have hti' := List.take_succ_eq_append_getElem hlt'
    have hmem : l = l' → l[i] = l'[i] := fun e => by subst e; rfl
    have hgl := getD_map (f := encTQueue) hlt
    have hgl' := getD_map (f := encTQueue) hlt'
    generalize l[i] = x at a1 hti hmem hgl qx ⊢
    generalize l'[i] = y at b1 hti' hmem hgl' qy ⊢
    simp (maxSteps := 2000000) only [go_sem, ↓reduceIte, reduceCtorEq, Nat.reduceAdd, Nat.reduceMul, Nat.reduceSub, Nat.reduceLT, Nat.reduceLeDiff, Nat.reduceEqDiff, Int.reduceToNat, Int.reduceLT, Int.reduceLE, Int.reduceNeg, hdi, hw, hgl, hgl', encTQueue, List.length_map]
    repeat ((with_reducible show _ ∧ _); refine scA ?_)
    refine ⟨fun hq => ?_, fun hq => ?_⟩
    · apply hK
      simp (maxSteps := 2000000) only [go_sem, ↓reduceIte, reduceCtorEq, Nat.reduceAdd, Nat.reduceMul, Nat.reduceSub, Nat.reduceLT, Nat.reduceLeDiff, Nat.reduceEqDiff, Int.reduceToNat, Int.reduceLT, Int.reduceLE, Int.reduceNeg, hdi, hw, hgl, hgl', encTQueue, List.length_map]
      refine Fin.nt Tryz.results32 [] ?_ ?_ ?_ <;> try trivial
      first | exact True.intro | (refine rsl ?_; try exact True.intro)
      symm; rw [decide_eq_false_iff_not]
      intro e; rw [hmem e] at hq; simp at hq
    have hlx : x.List.length = y.List.length := by simp at hq; omega
    clear hq
    refine LoopK_intro (fun zn zs => ∃ k : Nat, k ≤ x.List.length ∧ zn = x.List.length - k ∧ (x.List.take k = y.List.take k) ∧ zs = mkSt [(6, .one (.dat (.int .i64 k))), (5, .one (.dat (.int .i64 i))), (0, .one (.dat (.sl 1 (l.map encTQueue)))), (1, .one (.dat (.sl 1 (l'.map encTQueue))))] []) (x.List.length) _
      (Ent.wk []) ⟨0, by omega, by omega, rfl, rfl⟩ ?_
    rintro zn zs ⟨k, hi2, rfl, hinv2, rfl⟩ K2 hK2
    rcases Nat.lt_or_ge k (x.List.length) with hlt2 | hge2
    · have hdi2 : decide ((k : Int) < ((x.List.length : Nat) : Int)) = true := decide_eq_true (by omega)
      have hw2 := wrap_succ hlt2 (show x.List.length ≤ maxLen by omega)
      have hlt2' : k < y.List.length := by omega
      simp (maxSteps := 2000000) only [go_sem, ↓reduceIte, reduceCtorEq, Nat.reduceAdd, Nat.reduceMul, Nat.reduceSub, Nat.reduceLT, Nat.reduceLeDiff, Nat.reduceEqDiff, Int.reduceToNat, Int.reduceLT, Int.reduceLE, Int.reduceNeg, hdi2, hw2, hgl, hgl', encTQueue, getD_map hlt2, getD_map hlt2', encBatch, List.length_map]
      repeat ((with_reducible show _ ∧ _); refine scA ?_)
      first | refine CallK_pure e76 (c76 x.List[k] y.List[k] (qx _ (List.getElem_mem hlt2)) (qy _ (List.getElem_mem hlt2'))) rfl ?_ | refine EffK_pw e76 (c76 x.List[k] y.List[k] (qx _ (List.getElem_mem hlt2)) (qy _ (List.getElem_mem hlt2'))) rfl ?_ | refine EffK_pu e76 (c76 x.List[k] y.List[k] (qx _ (List.getElem_mem hlt2)) (qy _ (List.getElem_mem hlt2'))) rfl ?_ | refine CCallK_pl e76 (c76 x.List[k] y.List[k] (qx _ (List.getElem_mem hlt2)) (qy _ (List.getElem_mem hlt2'))) rfl rfl ?_ | refine CCallK_pm e76 (c76 x.List[k] y.List[k] (qx _ (List.getElem_mem hlt2)) (qy _ (List.getElem_mem hlt2'))) rfl rfl ?_
      simp (maxSteps := 2000000) only [go_sem, ↓reduceIte, reduceCtorEq, Nat.reduceAdd, Nat.reduceMul, Nat.reduceSub, Nat.reduceLT, Nat.reduceLeDiff, Nat.reduceEqDiff, Int.reduceToNat, Int.reduceLT, Int.reduceLE, Int.reduceNeg, hdi2, hw2, hgl, hgl', encTQueue, getD_map hlt2, getD_map hlt2', encBatch, List.length_map]
      refine ⟨fun hq => ?_, fun hq => ?_⟩
      · have hne : x.List[k] ≠ y.List[k] := fun e => by rw [e] at hq; simp at hq
        apply hK2
        simp (maxSteps := 2000000) only [go_sem, ↓reduceIte, reduceCtorEq, Nat.reduceAdd, Nat.reduceMul, Nat.reduceSub, Nat.reduceLT, Nat.reduceLeDiff, Nat.reduceEqDiff, Int.reduceToNat, Int.reduceLT, Int.reduceLE, Int.reduceNeg, hdi2, hw2, hgl, hgl', encTQueue, getD_map hlt2, getD_map hlt2', encBatch, List.length_map]
        apply hK
        simp (maxSteps := 2000000) only [go_sem, ↓reduceIte, reduceCtorEq, Nat.reduceAdd, Nat.reduceMul, Nat.reduceSub, Nat.reduceLT, Nat.reduceLeDiff, Nat.reduceEqDiff, Int.reduceToNat, Int.reduceLT, Int.reduceLE, Int.reduceNeg, hdi2, hw2, hgl, hgl', encTQueue, getD_map hlt2, getD_map hlt2', encBatch, List.length_map]
        refine Fin.nt Tryz.results32 [] ?_ ?_ ?_ <;> try trivial
        first | exact True.intro | (refine rsl ?_; try exact True.intro)
        symm; rw [decide_eq_false_iff_not]
        intro e
        have e2 := hmem e
        subst e2; exact hne rfl
      · have he : x.List[k] = y.List[k] := by simpa using hq
        (apply hK2
         exact ⟨x.List.length - (k + 1), _, by omega, Ent.wk [], k + 1, by omega, rfl, by rw [List.take_succ_eq_append_getElem hlt2, List.take_succ_eq_append_getElem hlt2', hinv2, he], rfl⟩)
    · have hge2' : x.List.length = k := by omega
      subst hge2'
      have hdi2 : decide (((x.List.length : Nat) : Int) < ((x.List.length : Nat) : Int)) = false := by simp
      have hxy : x = y := by
        rw [List.take_of_length_le (Nat.le_refl _), List.take_of_length_le (by omega)] at hinv2
        rw [TQueue.eq_iff]; exact hinv2
      clear hinv2
      simp (maxSteps := 2000000) only [go_sem, ↓reduceIte, reduceCtorEq, Nat.reduceAdd, Nat.reduceMul, Nat.reduceSub, Nat.reduceLT, Nat.reduceLeDiff, Nat.reduceEqDiff, Int.reduceToNat, Int.reduceLT, Int.reduceLE, Int.reduceNeg, hdi2, hgl, hgl', encTQueue, List.length_map]
      repeat ((with_reducible show _ ∧ _); refine scA ?_)
      apply hK2
      simp (maxSteps := 2000000) only [go_sem, ↓reduceIte, reduceCtorEq, Nat.reduceAdd, Nat.reduceMul, Nat.reduceSub, Nat.reduceLT, Nat.reduceLeDiff, Nat.reduceEqDiff, Int.reduceToNat, Int.reduceLT, Int.reduceLE, Int.reduceNeg, hw]
      (apply hK
       exact ⟨l.length - (i + 1), _, by omega, Ent.wk [], i + 1, by omega, rfl, by rw [hti, hti', hinv, hxy], rfl⟩)
  · have hge' : l.length = i := by omega
    subst hge'
    have hdi : decide (((l.length : Nat) : Int) < ((l.length : Nat) : Int)) = false := by simp
    have ht : l = l' := by
      rw [List.take_of_length_le (Nat.le_refl _), List.take_of_length_le (by omega)] at hinv
      exact hinv
    clear hinv
    simp (maxSteps := 2000000) only [go_sem, ↓reduceIte, reduceCtorEq, Nat.reduceAdd, Nat.reduceMul, Nat.reduceSub, Nat.reduceLT, Nat.reduceLeDiff, Nat.reduceEqDiff, Int.reduceToNat, Int.reduceLT, Int.reduceLE, Int.reduceNeg, hdi, List.length_map]
    apply hK
    refine evl ?_
    refine Fin.nt Tryz.results32 [] ?_ ?_ ?_ <;> try trivial
    first | exact True.intro | (refine rsl ?_; try exact True.intro)
    symm; rw [decide_eq_true_iff]
    exact ht
theorem c33 (l l' : List TEv) (hl : l.length ≤ 1048576) (hl' : l'.length ≤ 1048576) (q : ∀ x ∈ l, x.sok) (r : ∀ x ∈ l', x.sok) : Ctr Tryz.prog 33 [.one (.dat (.sl 6 (l.map encTEv))), .one (.dat (.sl 6 (l'.map encTEv)))] [] (.one (.dat (.bool (decide (l = l'))))) [] := by
  have hmx : maxLen = 9223372036854775807 := rfl
  refine Ctr.bd mixed Tryz.func33 rfl ?_
  simp (maxSteps := 2000000) only [go_sem, ↓reduceIte, reduceCtorEq, Nat.reduceAdd, Nat.reduceMul, Nat.reduceSub, Nat.reduceLT, Nat.reduceLeDiff, Nat.reduceEqDiff, Int.reduceToNat, Int.reduceLT, Int.reduceLE, Int.reduceNeg, List.length_map]
  repeat ((with_reducible show _ ∧ _); refine scA ?_)
  refine ⟨fun h => ?_, fun h => ?_⟩
  · have hne : l.length ≠ l'.length := by simp at h; omega
    refine Fin.nt Tryz.results33 [] ?_ ?_ ?_ <;> try trivial
    first | exact True.intro | (refine rsl ?_; try exact True.intro)
    symm; rw [decide_eq_false_iff_not]
    intro e; exact hne (by rw [e])
  have hlen : l.length = l'.length := by simp at h; omega
  refine LoopK_intro (fun zn zs => ∃ i : Nat, i ≤ l.length ∧ zn = l.length - i ∧ (l.take i = l'.take i) ∧ zs = mkSt [(5, .one (.dat (.int .i64 i))), (0, .one (.dat (.sl 6 (l.map encTEv)))), (1, .one (.dat (.sl 6 (l'.map encTEv))))] []) (l.length) _
    (Ent.wk []) ⟨0, by omega, by omega, rfl, rfl⟩ ?_
  rintro zn zs ⟨i, hi, rfl, hinv, rfl⟩ K hK
  rcases Nat.lt_or_ge i (l.length) with hlt | hge
  · have hdi : decide ((i : Int) < ((l.length : Nat) : Int)) = true := decide_eq_true (by omega)
    have hw := wrap_succ hlt (show l.length ≤ maxLen by omega)
    have hlt' : i < l'.length := by omega
    obtain ⟨a1, a2, _⟩ := q l[i] (List.getElem_mem hlt)
    obtain ⟨b1, b2, _⟩ := r l'[i] (List.getElem_mem hlt')
    simp (maxSteps := 2000000) only [go_sem, ↓reduceIte, reduceCtorEq, Nat.reduceAdd, Nat.reduceMul, Nat.reduceSub, Nat.reduceLT, Nat.reduceLeDiff, Nat.reduceEqDiff, Int.reduceToNat, Int.reduceLT, Int.reduceLE, Int.reduceNeg, hdi, hw, getD_map hlt, getD_map hlt', encTEv, List.length_map, List.append_eq]
    repeat ((with_reducible show _ ∧ _); refine scA ?_)
    first | refine CallK_pure e77 (c77 l[i].Cmds l'[i].Cmds (by omega) (by omega)) rfl ?_ | refine EffK_pw e77 (c77 l[i].Cmds l'[i].Cmds (by omega) (by omega)) rfl ?_ | refine EffK_pu e77 (c77 l[i].Cmds l'[i].Cmds (by omega) (by omega)) rfl ?_ | refine CCallK_pl e77 (c77 l[i].Cmds l'[i].Cmds (by omega) (by omega)) rfl rfl ?_ | refine CCallK_pm e77 (c77 l[i].Cmds l'[i].Cmds (by omega) (by omega)) rfl rfl ?_
    simp (maxSteps := 2000000) only [go_sem, ↓reduceIte, reduceCtorEq, Nat.reduceAdd, Nat.reduceMul, Nat.reduceSub, Nat.reduceLT, Nat.reduceLeDiff, Nat.reduceEqDiff, Int.reduceToNat, Int.reduceLT, Int.reduceLE, Int.reduceNeg, hdi, hw, getD_map hlt, getD_map hlt', encTEv, List.length_map, List.append_eq]
    repeat ((with_reducible show _ ∧ _); refine scA ?_)
    first | refine CallK_pure e78 (c78 l[i].Res l'[i].Res (by omega) (by omega)) rfl ?_ | refine EffK_pw e78 (c78 l[i].Res l'[i].Res (by omega) (by omega)) rfl ?_ | refine EffK_pu e78 (c78 l[i].Res l'[i].Res (by omega) (by omega)) rfl ?_ | refine CCallK_pl e78 (c78 l[i].Res l'[i].Res (by omega) (by omega)) rfl rfl ?_ | refine CCallK_pm e78 (c78 l[i].Res l'[i].Res (by omega) (by omega)) rfl rfl ?_
    simp (maxSteps := 2000000) only [go_sem, ↓reduceIte, reduceCtorEq, Nat.reduceAdd, Nat.reduceMul, Nat.reduceSub, Nat.reduceLT, Nat.reduceLeDiff, Nat.reduceEqDiff, Int.reduceToNat, Int.reduceLT, Int.reduceLE, Int.reduceNeg, hdi, hw, getD_map hlt, getD_map hlt', encTEv, List.length_map, List.append_eq]
    repeat ((with_reducible show _ ∧ _); refine scA ?_)
    refine ⟨fun hq => ?_, fun hq => ?_⟩
    · have hne : l[i] ≠ l'[i] := fun e => by rw [e] at hq; simp at hq
      apply hK
      simp (maxSteps := 2000000) only [go_sem, ↓reduceIte, reduceCtorEq, Nat.reduceAdd, Nat.reduceMul, Nat.reduceSub, Nat.reduceLT, Nat.reduceLeDiff, Nat.reduceEqDiff, Int.reduceToNat, Int.reduceLT, Int.reduceLE, Int.reduceNeg, hdi, hw, getD_map hlt, getD_map hlt', encTEv, List.length_map, List.append_eq]
      refine Fin.nt Tryz.results33 [] ?_ ?_ ?_ <;> try trivial
      first | exact True.intro | (refine rsl ?_; try exact True.intro)
      symm; rw [decide_eq_false_iff_not]
      rintro rfl; exact hne rfl
    · have he : l[i] = l'[i] := by rw [TEv.eq_iff]; simpa [and_assoc] using hq
      (apply hK
       exact ⟨l.length - (i + 1), _, by omega, Ent.wk [], i + 1, by omega, rfl, by rw [List.take_succ_eq_append_getElem hlt, List.take_succ_eq_append_getElem hlt', hinv, he], rfl⟩)
  · have hge' : l.length = i := by omega
    subst hge'
    have hdi : decide (((l.length : Nat) : Int) < ((l.length : Nat) : Int)) = false := by simp
    have ht : l = l' := by
      rw [List.take_of_length_le (Nat.le_refl _), List.take_of_length_le (by omega)] at hinv
      exact hinv
    clear hinv
    simp (maxSteps := 2000000) only [go_sem, ↓reduceIte, reduceCtorEq, Nat.reduceAdd, Nat.reduceMul, Nat.reduceSub, Nat.reduceLT, Nat.reduceLeDiff, Nat.reduceEqDiff, Int.reduceToNat, Int.reduceLT, Int.reduceLE, Int.reduceNeg, hdi, List.length_map]
    apply hK
    refine evl ?_
    refine Fin.nt Tryz.results33 [] ?_ ?_ ?_ <;> try trivial
    first | exact True.intro | (refine rsl ?_; try exact True.intro)
    symm; rw [decide_eq_true_iff]
    exact ht
theorem c10 (x y : Table) (hx : x.sok) (hy : y.sok) : Ctr Tryz.prog 10 [.agg ((encTable x).map .dat), .agg ((encTable y).map .dat)] [] (.one (.dat (.bool (decide (x = y))))) [] := by
  have hmx : maxLen = 9223372036854775807 := rfl
  obtain ⟨hBase, a1, a2, qJobs, a3, qTodo, a4, qLog, _⟩ := hx
  obtain ⟨gBase, b1, b2, rJobs, b3, rTodo, b4, rLog, _⟩ := hy
  have sBase := c31 x.Base y.Base hBase gBase
  simp only [encBase, List.map_cons, List.map_nil] at sBase
  simp only [encTable, List.map_cons, List.map_nil]
  refine Ctr.bd mixed Tryz.func10 rfl ?_
  simp (maxSteps := 2000000) only [go_sem, ↓reduceIte, reduceCtorEq, Nat.reduceAdd, Nat.reduceMul, Nat.reduceSub, Nat.reduceLT, Nat.reduceLeDiff, Nat.reduceEqDiff, Int.reduceToNat, Int.reduceLT, Int.reduceLE, Int.reduceNeg, List.length_map]
  repeat ((with_reducible show _ ∧ _); refine scA ?_)
  first | refine CallK_pure e31 (sBase) rfl ?_ | refine EffK_pw e31 (sBase) rfl ?_ | refine EffK_pu e31 (sBase) rfl ?_ | refine CCallK_pl e31 (sBase) rfl rfl ?_ | refine CCallK_pm e31 (sBase) rfl rfl ?_
  simp (maxSteps := 2000000) only [go_sem, ↓reduceIte, reduceCtorEq, Nat.reduceAdd, Nat.reduceMul, Nat.reduceSub, Nat.reduceLT, Nat.reduceLeDiff, Nat.reduceEqDiff, Int.reduceToNat, Int.reduceLT, Int.reduceLE, Int.reduceNeg, List.length_map]
  repeat ((with_reducible show _ ∧ _); refine scA ?_)
  first | refine CallK_pure e32 (c32 x.Todo y.Todo a3 b3 qTodo rTodo) rfl ?_ | refine EffK_pw e32 (c32 x.Todo y.Todo a3 b3 qTodo rTodo) rfl ?_ | refine EffK_pu e32 (c32 x.Todo y.Todo a3 b3 qTodo rTodo) rfl ?_ | refine CCallK_pl e32 (c32 x.Todo y.Todo a3 b3 qTodo rTodo) rfl rfl ?_ | refine CCallK_pm e32 (c32 x.Todo y.Todo a3 b3 qTodo rTodo) rfl rfl ?_
  simp (maxSteps := 2000000) only [go_sem, ↓reduceIte, reduceCtorEq, Nat.reduceAdd, Nat.reduceMul, Nat.reduceSub, Nat.reduceLT, Nat.reduceLeDiff, Nat.reduceEqDiff, Int.reduceToNat, Int.reduceLT, Int.reduceLE, Int.reduceNeg, List.length_map]
  repeat ((with_reducible show _ ∧ _); refine scA ?_)
  first | refine CallK_pure e33 (c33 x.Log y.Log a4 b4 qLog rLog) rfl ?_ | refine EffK_pw e33 (c33 x.Log y.Log a4 b4 qLog rLog) rfl ?_ | refine EffK_pu e33 (c33 x.Log y.Log a4 b4 qLog rLog) rfl ?_ | refine CCallK_pl e33 (c33 x.Log y.Log a4 b4 qLog rLog) rfl rfl ?_ | refine CCallK_pm e33 (c33 x.Log y.Log a4 b4 qLog rLog) rfl rfl ?_
  simp (maxSteps := 2000000) only [go_sem, ↓reduceIte, reduceCtorEq, Nat.reduceAdd, Nat.reduceMul, Nat.reduceSub, Nat.reduceLT, Nat.reduceLeDiff, Nat.reduceEqDiff, Int.reduceToNat, Int.reduceLT, Int.reduceLE, Int.reduceNeg, List.length_map]
  repeat ((with_reducible show _ ∧ _); refine scA ?_)
  refine ⟨fun h => ?_, fun h => ?_⟩
  · refine Fin.nt Tryz.results10 [] ?_ ?_ ?_ <;> try trivial
    first | exact True.intro | (refine rsl ?_; try exact True.intro)
    symm; rw [decide_eq_false_iff_not]
    rintro rfl; simp at h
  have hE : x.Base = y.Base ∧ x.Bkts.length = y.Bkts.length ∧ x.Jobs.length = y.Jobs.length ∧ x.Serial = y.Serial ∧ x.Todo = y.Todo ∧ x.Log = y.Log := by
    simp at h
    obtain ⟨⟨⟨⟨⟨h1, h2⟩, h3⟩, h4⟩, h5⟩, h6⟩ := h
    exact ⟨h1, by omega, by omega, h4, h5, h6⟩
  obtain ⟨hE1, hlb, hlj, hE4, hE5, hE6⟩ := hE
  refine LoopK_intro (fun zn zs => ∃ i : Nat, i ≤ x.Bkts.length ∧ zn = x.Bkts.length - i ∧ (x.Bkts.take i = y.Bkts.take i) ∧ zs = mkSt [(5, .one (.dat (.int .i64 i))), (2, .one (.ptr (.own 0 0 0))), (3, .one (.ptr (.own 1 0 0)))] [.box [.dat (.sl 1 (x.Base.Mem.Heap.Bytes.map encI)), .dat (.sl 1 (x.Base.Mem.Heap.Class.map encI)), .dat (.sl 1 (x.Base.Mem.Lists.Global.map encSList)), .dat (.sl 1 (x.Base.Mem.Lists.Own.map encSList)), .dat (.int .i64 x.Base.Clock.Epoch), .dat (.sl 4 (x.Base.Clock.Pins.map encPin)), .dat (.sl 1 (x.Base.Limbo.map encLList)), .dat (.sl 1 (x.Base.Haz.map encI)), .dat (.sl 3 (x.Bkts.map encBkt)), .dat (.sl 32 (x.Jobs.map encTJob)), .dat (.sl 1 (x.Todo.map encTQueue)), .dat (.sl 6 (x.Log.map encTEv)), .dat (.int .i64 x.Serial)], .box [.dat (.sl 1 (y.Base.Mem.Heap.Bytes.map encI)), .dat (.sl 1 (y.Base.Mem.Heap.Class.map encI)), .dat (.sl 1 (y.Base.Mem.Lists.Global.map encSList)), .dat (.sl 1 (y.Base.Mem.Lists.Own.map encSList)), .dat (.int .i64 y.Base.Clock.Epoch), .dat (.sl 4 (y.Base.Clock.Pins.map encPin)), .dat (.sl 1 (y.Base.Limbo.map encLList)), .dat (.sl 1 (y.Base.Haz.map encI)), .dat (.sl 3 (y.Bkts.map encBkt)), .dat (.sl 32 (y.Jobs.map encTJob)), .dat (.sl 1 (y.Todo.map encTQueue)), .dat (.sl 6 (y.Log.map encTEv)), .dat (.int .i64 y.Serial)]]) (x.Bkts.length) _
    (Ent.wk [0, 1]) ⟨0, by omega, by omega, rfl, rfl⟩ ?_
  rintro zn zs ⟨i, hi, rfl, hinv, rfl⟩ K hK
  rcases Nat.lt_or_ge i (x.Bkts.length) with hlt | hge
  · have hdi : decide ((i : Int) < ((x.Bkts.length : Nat) : Int)) = true := decide_eq_true (by omega)
    have hw := wrap_succ hlt (show x.Bkts.length ≤ maxLen by omega)
    have hlt' : i < y.Bkts.length := by omega
    simp (maxSteps := 2000000) only [go_sem, ↓reduceIte, reduceCtorEq, Nat.reduceAdd, Nat.reduceMul, Nat.reduceSub, Nat.reduceLT, Nat.reduceLeDiff, Nat.reduceEqDiff, Int.reduceToNat, Int.reduceLT, Int.reduceLE, Int.reduceNeg, hdi, hw, getD_map hlt, getD_map hlt', encBkt, List.length_map]
    repeat ((with_reducible show _ ∧ _); refine scA ?_)
    refine ⟨fun hq => ?_, fun hq => ?_⟩
    · have hne : x.Bkts[i] ≠ y.Bkts[i] := fun e => by rw [e] at hq; simp at hq
      apply hK
      simp (maxSteps := 2000000) only [go_sem, ↓reduceIte, reduceCtorEq, Nat.reduceAdd, Nat.reduceMul, Nat.reduceSub, Nat.reduceLT, Nat.reduceLeDiff, Nat.reduceEqDiff, Int.reduceToNat, Int.reduceLT, Int.reduceLE, Int.reduceNeg, hdi, hw, getD_map hlt, getD_map hlt', encBkt, List.length_map]
      refine Fin.nt Tryz.results10 [] ?_ ?_ ?_ <;> try trivial
      first | exact True.intro | (refine rsl ?_; try exact True.intro)
      symm; rw [decide_eq_false_iff_not]
      intro e; exact hne (by simp only [e])
    · have he : x.Bkts[i] = y.Bkts[i] := by rw [Bkt.eq_iff]; simpa [and_assoc] using hq
      (apply hK
       exact ⟨x.Bkts.length - (i + 1), _, by omega, Ent.wk [0, 1], i + 1, by omega, rfl, by rw [List.take_succ_eq_append_getElem hlt, List.take_succ_eq_append_getElem hlt', hinv, he], rfl⟩)
  · have hge' : x.Bkts.length = i := by omega
    subst hge'
    have hdi : decide (((x.Bkts.length : Nat) : Int) < ((x.Bkts.length : Nat) : Int)) = false := by simp
    have htBkts : x.Bkts = y.Bkts := by
      rw [List.take_of_length_le (Nat.le_refl _), List.take_of_length_le (by omega)] at hinv
      exact hinv
    clear hinv
    simp (maxSteps := 2000000) only [go_sem, ↓reduceIte, reduceCtorEq, Nat.reduceAdd, Nat.reduceMul, Nat.reduceSub, Nat.reduceLT, Nat.reduceLeDiff, Nat.reduceEqDiff, Int.reduceToNat, Int.reduceLT, Int.reduceLE, Int.reduceNeg, hdi, List.length_map]
    apply hK
    refine evl ?_
    refine LoopK_intro (fun zn zs => ∃ i : Nat, i ≤ x.Jobs.length ∧ zn = x.Jobs.length - i ∧ (x.Jobs.take i = y.Jobs.take i) ∧ zs = mkSt [(6, .one (.dat (.int .i64 i))), (2, .one (.ptr (.own 0 0 0))), (3, .one (.ptr (.own 1 0 0)))] [.box [.dat (.sl 1 (x.Base.Mem.Heap.Bytes.map encI)), .dat (.sl 1 (x.Base.Mem.Heap.Class.map encI)), .dat (.sl 1 (x.Base.Mem.Lists.Global.map encSList)), .dat (.sl 1 (x.Base.Mem.Lists.Own.map encSList)), .dat (.int .i64 x.Base.Clock.Epoch), .dat (.sl 4 (x.Base.Clock.Pins.map encPin)), .dat (.sl 1 (x.Base.Limbo.map encLList)), .dat (.sl 1 (x.Base.Haz.map encI)), .dat (.sl 3 (x.Bkts.map encBkt)), .dat (.sl 32 (x.Jobs.map encTJob)), .dat (.sl 1 (x.Todo.map encTQueue)), .dat (.sl 6 (x.Log.map encTEv)), .dat (.int .i64 x.Serial)], .box [.dat (.sl 1 (y.Base.Mem.Heap.Bytes.map encI)), .dat (.sl 1 (y.Base.Mem.Heap.Class.map encI)), .dat (.sl 1 (y.Base.Mem.Lists.Global.map encSList)), .dat (.sl 1 (y.Base.Mem.Lists.Own.map encSList)), .dat (.int .i64 y.Base.Clock.Epoch), .dat (.sl 4 (y.Base.Clock.Pins.map encPin)), .dat (.sl 1 (y.Base.Limbo.map encLList)), .dat (.sl 1 (y.Base.Haz.map encI)), .dat (.sl 3 (y.Bkts.map encBkt)), .dat (.sl 32 (y.Jobs.map encTJob)), .dat (.sl 1 (y.Todo.map encTQueue)), .dat (.sl 6 (y.Log.map encTEv)), .dat (.int .i64 y.Serial)]]) (x.Jobs.length) _
      (Ent.wk [0, 1]) ⟨0, by omega, by omega, rfl, rfl⟩ ?_
    rintro zn zs ⟨i, hi, rfl, hinv, rfl⟩ K hK
    rcases Nat.lt_or_ge i (x.Jobs.length) with hlt | hge
    · have hdi : decide ((i : Int) < ((x.Jobs.length : Nat) : Int)) = true := decide_eq_true (by omega)
      have hw := wrap_succ hlt (show x.Jobs.length ≤ maxLen by omega)
      have hlt' : i < y.Jobs.length := by omega
      simp (maxSteps := 2000000) only [go_sem, ↓reduceIte, reduceCtorEq, Nat.reduceAdd, Nat.reduceMul, Nat.reduceSub, Nat.reduceLT, Nat.reduceLeDiff, Nat.reduceEqDiff, Int.reduceToNat, Int.reduceLT, Int.reduceLE, Int.reduceNeg, hdi, hw, getD_map hlt, getD_map hlt', encTJob, List.length_map]
      repeat ((with_reducible show _ ∧ _); refine scA ?_)
      have sJob := c34 x.Jobs[i] y.Jobs[i] (qJobs _ (List.getElem_mem hlt)) (rJobs _ (List.getElem_mem hlt'))
      simp only [encTJob, List.map_cons, List.map_nil] at sJob
      first | refine CallK_pure e34 (sJob) rfl ?_ | refine EffK_pw e34 (sJob) rfl ?_ | refine EffK_pu e34 (sJob) rfl ?_ | refine CCallK_pl e34 (sJob) rfl rfl ?_ | refine CCallK_pm e34 (sJob) rfl rfl ?_
      simp (maxSteps := 2000000) only [go_sem, ↓reduceIte, reduceCtorEq, Nat.reduceAdd, Nat.reduceMul, Nat.reduceSub, Nat.reduceLT, Nat.reduceLeDiff, Nat.reduceEqDiff, Int.reduceToNat, Int.reduceLT, Int.reduceLE, Int.reduceNeg, hdi, hw, getD_map hlt, getD_map hlt', encTJob, List.length_map]
      refine ⟨fun hq => ?_, fun hq => ?_⟩
      · have hne : x.Jobs[i] ≠ y.Jobs[i] := fun e => by rw [e] at hq; simp at hq
        apply hK
        simp (maxSteps := 2000000) only [go_sem, ↓reduceIte, reduceCtorEq, Nat.reduceAdd, Nat.reduceMul, Nat.reduceSub, Nat.reduceLT, Nat.reduceLeDiff, Nat.reduceEqDiff, Int.reduceToNat, Int.reduceLT, Int.reduceLE, Int.reduceNeg, hdi, hw, getD_map hlt, getD_map hlt', encTJob, List.length_map]
        refine Fin.nt Tryz.results10 [] ?_ ?_ ?_ <;> try trivial
        first | exact True.intro | (refine rsl ?_; try exact True.intro)
        symm; rw [decide_eq_false_iff_not]
        intro e; exact hne (by simp only [e])
      · have he : x.Jobs[i] = y.Jobs[i] := by simpa using hq
        (apply hK
         exact ⟨x.Jobs.length - (i + 1), _, by omega, Ent.wk [0, 1], i + 1, by omega, rfl, by rw [List.take_succ_eq_append_getElem hlt, List.take_succ_eq_append_getElem hlt', hinv, he], rfl⟩)
    · have hge' : x.Jobs.length = i := by omega
      subst hge'
      have hdi : decide (((x.Jobs.length : Nat) : Int) < ((x.Jobs.length : Nat) : Int)) = false := by simp
      have htJobs : x.Jobs = y.Jobs := by
        rw [List.take_of_length_le (Nat.le_refl _), List.take_of_length_le (by omega)] at hinv
        exact hinv
      clear hinv
      simp (maxSteps := 2000000) only [go_sem, ↓reduceIte, reduceCtorEq, Nat.reduceAdd, Nat.reduceMul, Nat.reduceSub, Nat.reduceLT, Nat.reduceLeDiff, Nat.reduceEqDiff, Int.reduceToNat, Int.reduceLT, Int.reduceLE, Int.reduceNeg, hdi, List.length_map]
      apply hK
      refine evl ?_
      refine Fin.nt Tryz.results10 [] ?_ ?_ ?_ <;> try trivial
      first | exact True.intro | (refine rsl ?_; try exact True.intro)
      symm; rw [decide_eq_true_iff, Table.eq_iff]
      simp [hE1, hE4, hE5, hE6, htBkts, htJobs]
end Go.Proofs.YtjfpaiencojehaaGreat.Mod
