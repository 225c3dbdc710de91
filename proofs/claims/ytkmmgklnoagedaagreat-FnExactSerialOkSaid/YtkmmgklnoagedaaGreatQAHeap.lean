import Derived.Test.YtkmmgklnoagedaaGreatRows
import Derived.Test.YtkmmgklnoagedaaGreatQATy
import Derived.Test.YtkmmgklnoagedaaGreatQAbsTac
import Derived.Test.YtkmmgklnoagedaaGreatQAbsData
import Derived.Test.YtkmmgklnoagedaaGreatQAFam3
import Derived.Test.YtkmmgklnoagedaaGreatQANum
import Derived.Test.YtkmmgklnoagedaaGreatQASl2
import Derived.WalkKit
import Derived.ProofKit
import Derived.OpenShut
/- Contracts: Heap. -/
namespace Go.Proofs.YtkmmgklnoagedaaGreat.Mod
open Go.Proofs.Tryz Go.Abs Go.Proofs.YtkmmgklnoagedaaGreat.Ty Go.ChangeShapes Go.WideShapes Go.ChangeAt Go.RowKit
set_option linter.unusedSimpArgs false
set_option linter.unusedVariables false
set_option maxHeartbeats 8000000
set_option maxRecDepth 100000
def sizeOf (c : Int) : Int := if c = 0 then 8 else if c = 1 then 16 else if c = 2 then 40 else 0
def strideOf (c : Int) : Int := if c = 0 then 12 else if c = 1 then 20 else if c = 2 then 44 else 0
def perPage (c : Int) : Int := if c = 0 then 4 else if c = 1 then 2 else if c = 2 then 1 else 0
def genAt (s c : Int) : Int := if 0 <= s /\ s <= 23 /\ s % 4 < perPage c then s / 4 * 64 + 8 + s % 4 * strideOf c else -1
def startOf (s c : Int) : Int := if genAt s c < 0 then -1 else genAt s c + 4
theorem genAt_pos {s c : Int} (h1 : 0 <= s) (h2 : s <= 23) (h : s % 4 < perPage c) : genAt s c = s / 4 * 64 + 8 + s % 4 * strideOf c := if_pos ⟨h1, h2, h⟩
theorem cX {s c : Int} (h : ¬ (0 <= s /\ s <= 23 /\ s % 4 < perPage c)) : genAt s c = -1 := if_neg h
theorem aO (c : Int) : c = 0 \/ c = 1 \/ c = 2 \/ (within c 0 2 = false /\ sizeOf c = 0 /\ strideOf c = 0 /\ perPage c = 0) := by
 by_cases h0 : c = 0
 ·exact .inl h0
 by_cases h1 : c = 1
 ·exact .inr (.inl h1)
 by_cases h2 : c = 2
 ·exact .inr (.inr (.inl h2))
 refine .inr (.inr (.inr ⟨?_, ?_, ?_, ?_⟩))
 ·simp [within]; omega
 ·simp [sizeOf, h0, h1, h2]
 ·simp [strideOf, h0, h1, h2]
 ·simp [perPage, h0, h1, h2]
theorem li (c : Int) : 0 <= perPage c /\ perPage c <= 4 := by
 unfold perPage; repeat' split
 all_goals omega
theorem hP (c : Int) : 0 <= strideOf c /\ strideOf c <= 44 := by
 unfold strideOf; repeat' split
 all_goals omega
theorem w_0 : within 0 0 2 = true := rfl
theorem w_1 : within 1 0 2 = true := rfl
theorem w_2 : within 2 0 2 = true := rfl
theorem s_0 : sizeOf 0 = 8 := rfl
theorem s_1 : sizeOf 1 = 16 := rfl
theorem s_2 : sizeOf 2 = 40 := rfl
theorem t_0 : strideOf 0 = 12 := rfl
theorem t_1 : strideOf 1 = 20 := rfl
theorem t_2 : strideOf 2 = 44 := rfl
theorem p_0 : perPage 0 = 4 := rfl
theorem p_1 : perPage 1 = 2 := rfl
theorem p_2 : perPage 2 = 1 := rfl
theorem dc {s c : Int} (h : 0 <= genAt s c) : 0 <= s /\ s <= 23 /\ (c = 0 \/ c = 1 \/ c = 2) /\ s % 4 < perPage c /\ genAt s c = s / 4 * 64 + 8 + s % 4 * strideOf c /\ genAt s c + 4 + sizeOf c <= 384 := by
 unfold genAt at h ⊢
 split at h
 ·rename_i hc
  obtain ⟨h1, h2, h3⟩ := hc
  rw [if_pos ⟨h1, h2, h3⟩]
  rcases aO c with rfl | rfl | rfl | ⟨_, _, _, e⟩
  ·rw [p_0] at h3; rw [t_0, s_0, p_0]; refine ⟨h1, h2, .inl rfl, by omega, rfl, by omega⟩
  ·rw [p_1] at h3; rw [t_1, s_1, p_1]; refine ⟨h1, h2, .inr (.inl rfl), by omega, rfl, by omega⟩
  ·rw [p_2] at h3; rw [t_2, s_2, p_2]; refine ⟨h1, h2, .inr (.inr rfl), by omega, rfl, by omega⟩
  ·rw [e] at h3; omega
 ·omega
theorem c353 (c : Int) : Ctr prog 353 [.one (.dat (.int .i64 c))] [] (.one (.dat (.bool (within c 0 2)))) [] := by
 refine Ctr.bd aa func353 rfl ?_
 refine evw ?_
 (repeat' first
      | ((with_reducible show Abs.Fin _ _ _ _ _ _); refine Fin.nt results353 [] ?_ ?_ ?_ <;> try trivial)
      | ((first | refine af e151 (c151 ..) rfl rfl ?_ | refine ag e151 (c151 ..) rfl rfl ?_ | refine ck e151 (c151 ..) rfl ?_); refine evw ?_)
      | with_reducible intro h
      | ((with_reducible show _ /\ _); apply And.intro))
 all_goals try ((refine rsl ?_; try exact .intro))
 all_goals first | rfl | simp_all
theorem c326 (c : Int) : Ctr prog 326 [.one (.dat (.int .i64 c))] [] (.one (.dat (.bool (within c 0 23)))) [] := by
 refine Ctr.bd aa func326 rfl ?_
 refine evw ?_
 (repeat' first
      | ((with_reducible show Abs.Fin _ _ _ _ _ _); refine Fin.nt results326 [] ?_ ?_ ?_ <;> try trivial)
      | ((first | refine af e151 (c151 ..) rfl rfl ?_ | refine ag e151 (c151 ..) rfl rfl ?_ | refine ck e151 (c151 ..) rfl ?_); refine evw ?_)
      | with_reducible intro h
      | ((with_reducible show _ /\ _); apply And.intro))
 all_goals try ((refine rsl ?_; try exact .intro))
 all_goals first | rfl | simp_all
theorem c368 (c : Int) : Ctr prog 368 [.one (.dat (.int .i64 c))] [] (.one (.dat (.bool (within c 0 255)))) [] := by
 refine Ctr.bd aa func368 rfl ?_
 refine evw ?_
 (repeat' first
      | ((with_reducible show Abs.Fin _ _ _ _ _ _); refine Fin.nt results368 [] ?_ ?_ ?_ <;> try trivial)
      | ((first | refine af e151 (c151 ..) rfl rfl ?_ | refine ag e151 (c151 ..) rfl rfl ?_ | refine ck e151 (c151 ..) rfl ?_); refine evw ?_)
      | with_reducible intro h
      | ((with_reducible show _ /\ _); apply And.intro))
 all_goals try ((refine rsl ?_; try exact .intro))
 all_goals first | rfl | simp_all
theorem c352 (c : Int) : Ctr prog 352 [.one (.dat (.int .i64 c))] [] (.one (.dat (.int .i64 (sizeOf c)))) [] := by
 rcases aO c with rfl | rfl | rfl | ⟨hw, h1, h2, h3⟩
 all_goals
  refine Ctr.bd aa func352 rfl ?_
  refine evw ?_
 ·(repeat' first
      | ((with_reducible show Abs.Fin _ _ _ _ _ _); refine Fin.nt results352 [] ?_ ?_ ?_ <;> try trivial)
      | ((first | refine af e353 (c353 ..) rfl rfl ?_ | refine ag e353 (c353 ..) rfl rfl ?_ | refine ck e353 (c353 ..) rfl ?_); simp (maxSteps := 2000000) (disch := omega) only [go_sem, ↓reduceIte, reduceCtorEq, Nat.reduceAdd, Nat.reduceMul, Nat.reduceSub, Nat.reduceLT, Nat.reduceLeDiff, Nat.reduceEqDiff, Int.reduceToNat, Int.reduceLT, Int.reduceLE, Int.reduceNeg, Int.reduceEq, Int.reduceNe, Int.reduceBEq, Int.reduceBNe, Int.reduceAdd, Int.reduceMul, Int.reduceSub, Int.reduceTDiv, Int.reduceTMod, Nat.reduceBEq, wrap_id, Int.tmod_eq_emod_of_nonneg, Int.tdiv_eq_ediv_of_nonneg, not_false_eq_true, ne_eq, List.length_map, w_0, s_0])
      | with_reducible intro h
      | ((with_reducible show _ /\ _); apply And.intro))
  all_goals try ((refine rsl ?_; try exact .intro))
  all_goals first | rfl | simp_all | omega
 ·(repeat' first
      | ((with_reducible show Abs.Fin _ _ _ _ _ _); refine Fin.nt results352 [] ?_ ?_ ?_ <;> try trivial)
      | ((first | refine af e353 (c353 ..) rfl rfl ?_ | refine ag e353 (c353 ..) rfl rfl ?_ | refine ck e353 (c353 ..) rfl ?_); simp (maxSteps := 2000000) (disch := omega) only [go_sem, ↓reduceIte, reduceCtorEq, Nat.reduceAdd, Nat.reduceMul, Nat.reduceSub, Nat.reduceLT, Nat.reduceLeDiff, Nat.reduceEqDiff, Int.reduceToNat, Int.reduceLT, Int.reduceLE, Int.reduceNeg, Int.reduceEq, Int.reduceNe, Int.reduceBEq, Int.reduceBNe, Int.reduceAdd, Int.reduceMul, Int.reduceSub, Int.reduceTDiv, Int.reduceTMod, Nat.reduceBEq, wrap_id, Int.tmod_eq_emod_of_nonneg, Int.tdiv_eq_ediv_of_nonneg, not_false_eq_true, ne_eq, List.length_map, w_1, s_1])
      | with_reducible intro h
      | ((with_reducible show _ /\ _); apply And.intro))
  all_goals try ((refine rsl ?_; try exact .intro))
  all_goals first | rfl | simp_all | omega
 ·(repeat' first
      | ((with_reducible show Abs.Fin _ _ _ _ _ _); refine Fin.nt results352 [] ?_ ?_ ?_ <;> try trivial)
      | ((first | refine af e353 (c353 ..) rfl rfl ?_ | refine ag e353 (c353 ..) rfl rfl ?_ | refine ck e353 (c353 ..) rfl ?_); simp (maxSteps := 2000000) (disch := omega) only [go_sem, ↓reduceIte, reduceCtorEq, Nat.reduceAdd, Nat.reduceMul, Nat.reduceSub, Nat.reduceLT, Nat.reduceLeDiff, Nat.reduceEqDiff, Int.reduceToNat, Int.reduceLT, Int.reduceLE, Int.reduceNeg, Int.reduceEq, Int.reduceNe, Int.reduceBEq, Int.reduceBNe, Int.reduceAdd, Int.reduceMul, Int.reduceSub, Int.reduceTDiv, Int.reduceTMod, Nat.reduceBEq, wrap_id, Int.tmod_eq_emod_of_nonneg, Int.tdiv_eq_ediv_of_nonneg, not_false_eq_true, ne_eq, List.length_map, w_2, s_2])
      | with_reducible intro h
      | ((with_reducible show _ /\ _); apply And.intro))
  all_goals try ((refine rsl ?_; try exact .intro))
  all_goals first | rfl | simp_all | omega
 ·(repeat' first
      | ((with_reducible show Abs.Fin _ _ _ _ _ _); refine Fin.nt results352 [] ?_ ?_ ?_ <;> try trivial)
      | ((first | refine af e353 (c353 ..) rfl rfl ?_ | refine ag e353 (c353 ..) rfl rfl ?_ | refine ck e353 (c353 ..) rfl ?_); simp (maxSteps := 2000000) (disch := omega) only [go_sem, ↓reduceIte, reduceCtorEq, Nat.reduceAdd, Nat.reduceMul, Nat.reduceSub, Nat.reduceLT, Nat.reduceLeDiff, Nat.reduceEqDiff, Int.reduceToNat, Int.reduceLT, Int.reduceLE, Int.reduceNeg, Int.reduceEq, Int.reduceNe, Int.reduceBEq, Int.reduceBNe, Int.reduceAdd, Int.reduceMul, Int.reduceSub, Int.reduceTDiv, Int.reduceTMod, Nat.reduceBEq, wrap_id, Int.tmod_eq_emod_of_nonneg, Int.tdiv_eq_ediv_of_nonneg, not_false_eq_true, ne_eq, List.length_map, hw, h1])
      | with_reducible intro h
      | ((with_reducible show _ /\ _); apply And.intro))
  all_goals try ((refine rsl ?_; try exact .intro))
  all_goals first | rfl | simp_all | omega
theorem c259 (c : Int) : Ctr prog 259 [.one (.dat (.int .i64 c))] [] (.one (.dat (.int .i64 (sizeOf c)))) [] := by
 refine Ctr.bd aa func259 rfl ?_
 refine evw ?_
 (repeat' first
      | ((with_reducible show Abs.Fin _ _ _ _ _ _); refine Fin.nt results259 [] ?_ ?_ ?_ <;> try trivial)
      | with_reducible intro h
      | ((with_reducible show _ /\ _); apply And.intro))
 all_goals try ((refine rsl ?_; try exact .intro))
 all_goals first | rfl | (simp_all [sizeOf]; done) | omega
theorem c355 (c : Int) : Ctr prog 355 [.one (.dat (.int .i64 c))] [] (.one (.dat (.int .i64 (strideOf c)))) [] := by
 rcases aO c with rfl | rfl | rfl | ⟨hw, h1, h2, h3⟩
 all_goals
  refine Ctr.bd aa func355 rfl ?_
  refine evw ?_
 ·(repeat' first
      | ((with_reducible show Abs.Fin _ _ _ _ _ _); refine Fin.nt results355 [] ?_ ?_ ?_ <;> try trivial)
      | ((first | refine af e353 (c353 ..) rfl rfl ?_ | refine ag e353 (c353 ..) rfl rfl ?_ | refine ck e353 (c353 ..) rfl ?_ | refine af e352 (c352 ..) rfl rfl ?_ | refine ag e352 (c352 ..) rfl rfl ?_ | refine ck e352 (c352 ..) rfl ?_); simp (maxSteps := 2000000) (disch := omega) only [go_sem, ↓reduceIte, reduceCtorEq, Nat.reduceAdd, Nat.reduceMul, Nat.reduceSub, Nat.reduceLT, Nat.reduceLeDiff, Nat.reduceEqDiff, Int.reduceToNat, Int.reduceLT, Int.reduceLE, Int.reduceNeg, Int.reduceEq, Int.reduceNe, Int.reduceBEq, Int.reduceBNe, Int.reduceAdd, Int.reduceMul, Int.reduceSub, Int.reduceTDiv, Int.reduceTMod, Nat.reduceBEq, wrap_id, Int.tmod_eq_emod_of_nonneg, Int.tdiv_eq_ediv_of_nonneg, not_false_eq_true, ne_eq, List.length_map, w_0, s_0, t_0])
      | with_reducible intro h
      | ((with_reducible show _ /\ _); apply And.intro))
  all_goals try ((refine rsl ?_; try exact .intro))
  all_goals first | rfl | simp_all | omega
 ·(repeat' first
      | ((with_reducible show Abs.Fin _ _ _ _ _ _); refine Fin.nt results355 [] ?_ ?_ ?_ <;> try trivial)
      | ((first | refine af e353 (c353 ..) rfl rfl ?_ | refine ag e353 (c353 ..) rfl rfl ?_ | refine ck e353 (c353 ..) rfl ?_ | refine af e352 (c352 ..) rfl rfl ?_ | refine ag e352 (c352 ..) rfl rfl ?_ | refine ck e352 (c352 ..) rfl ?_); simp (maxSteps := 2000000) (disch := omega) only [go_sem, ↓reduceIte, reduceCtorEq, Nat.reduceAdd, Nat.reduceMul, Nat.reduceSub, Nat.reduceLT, Nat.reduceLeDiff, Nat.reduceEqDiff, Int.reduceToNat, Int.reduceLT, Int.reduceLE, Int.reduceNeg, Int.reduceEq, Int.reduceNe, Int.reduceBEq, Int.reduceBNe, Int.reduceAdd, Int.reduceMul, Int.reduceSub, Int.reduceTDiv, Int.reduceTMod, Nat.reduceBEq, wrap_id, Int.tmod_eq_emod_of_nonneg, Int.tdiv_eq_ediv_of_nonneg, not_false_eq_true, ne_eq, List.length_map, w_1, s_1, t_1])
      | with_reducible intro h
      | ((with_reducible show _ /\ _); apply And.intro))
  all_goals try ((refine rsl ?_; try exact .intro))
  all_goals first | rfl | simp_all | omega
 ·(repeat' first
      | ((with_reducible show Abs.Fin _ _ _ _ _ _); refine Fin.nt results355 [] ?_ ?_ ?_ <;> try trivial)
      | ((first | refine af e353 (c353 ..) rfl rfl ?_ | refine ag e353 (c353 ..) rfl rfl ?_ | refine ck e353 (c353 ..) rfl ?_ | refine af e352 (c352 ..) rfl rfl ?_ | refine ag e352 (c352 ..) rfl rfl ?_ | refine ck e352 (c352 ..) rfl ?_); simp (maxSteps := 2000000) (disch := omega) only [go_sem, ↓reduceIte, reduceCtorEq, Nat.reduceAdd, Nat.reduceMul, Nat.reduceSub, Nat.reduceLT, Nat.reduceLeDiff, Nat.reduceEqDiff, Int.reduceToNat, Int.reduceLT, Int.reduceLE, Int.reduceNeg, Int.reduceEq, Int.reduceNe, Int.reduceBEq, Int.reduceBNe, Int.reduceAdd, Int.reduceMul, Int.reduceSub, Int.reduceTDiv, Int.reduceTMod, Nat.reduceBEq, wrap_id, Int.tmod_eq_emod_of_nonneg, Int.tdiv_eq_ediv_of_nonneg, not_false_eq_true, ne_eq, List.length_map, w_2, s_2, t_2])
      | with_reducible intro h
      | ((with_reducible show _ /\ _); apply And.intro))
  all_goals try ((refine rsl ?_; try exact .intro))
  all_goals first | rfl | simp_all | omega
 ·(repeat' first
      | ((with_reducible show Abs.Fin _ _ _ _ _ _); refine Fin.nt results355 [] ?_ ?_ ?_ <;> try trivial)
      | ((first | refine af e353 (c353 ..) rfl rfl ?_ | refine ag e353 (c353 ..) rfl rfl ?_ | refine ck e353 (c353 ..) rfl ?_ | refine af e352 (c352 ..) rfl rfl ?_ | refine ag e352 (c352 ..) rfl rfl ?_ | refine ck e352 (c352 ..) rfl ?_); simp (maxSteps := 2000000) (disch := omega) only [go_sem, ↓reduceIte, reduceCtorEq, Nat.reduceAdd, Nat.reduceMul, Nat.reduceSub, Nat.reduceLT, Nat.reduceLeDiff, Nat.reduceEqDiff, Int.reduceToNat, Int.reduceLT, Int.reduceLE, Int.reduceNeg, Int.reduceEq, Int.reduceNe, Int.reduceBEq, Int.reduceBNe, Int.reduceAdd, Int.reduceMul, Int.reduceSub, Int.reduceTDiv, Int.reduceTMod, Nat.reduceBEq, wrap_id, Int.tmod_eq_emod_of_nonneg, Int.tdiv_eq_ediv_of_nonneg, not_false_eq_true, ne_eq, List.length_map, hw, h1, h2])
      | with_reducible intro h
      | ((with_reducible show _ /\ _); apply And.intro))
  all_goals try ((refine rsl ?_; try exact .intro))
  all_goals first | rfl | simp_all | omega
theorem c351 (c : Int) : Ctr prog 351 [.one (.dat (.int .i64 c))] [] (.one (.dat (.int .i64 (strideOf c)))) [] := by
 rcases aO c with rfl | rfl | rfl | ⟨hw, h1, h2, h3⟩
 all_goals
  refine Ctr.bd aa func351 rfl ?_
  refine evw ?_
 ·(repeat' first
      | ((with_reducible show Abs.Fin _ _ _ _ _ _); refine Fin.nt results351 [] ?_ ?_ ?_ <;> try trivial)
      | ((first | refine af e126 (c126 ..) rfl rfl ?_ | refine ag e126 (c126 ..) rfl rfl ?_ | refine ck e126 (c126 ..) rfl ?_ | refine af e259 (c259 ..) rfl rfl ?_ | refine ag e259 (c259 ..) rfl rfl ?_ | refine ck e259 (c259 ..) rfl ?_); simp (maxSteps := 2000000) (disch := omega) only [go_sem, ↓reduceIte, reduceCtorEq, Nat.reduceAdd, Nat.reduceMul, Nat.reduceSub, Nat.reduceLT, Nat.reduceLeDiff, Nat.reduceEqDiff, Int.reduceToNat, Int.reduceLT, Int.reduceLE, Int.reduceNeg, Int.reduceEq, Int.reduceNe, Int.reduceBEq, Int.reduceBNe, Int.reduceAdd, Int.reduceMul, Int.reduceSub, Int.reduceTDiv, Int.reduceTMod, Nat.reduceBEq, wrap_id, Int.tmod_eq_emod_of_nonneg, Int.tdiv_eq_ediv_of_nonneg, not_false_eq_true, ne_eq, List.length_map, w_0, s_0, t_0])
      | with_reducible intro h
      | ((with_reducible show _ /\ _); apply And.intro))
  all_goals try ((refine rsl ?_; try exact .intro))
  all_goals first | rfl | simp_all | omega
 ·(repeat' first
      | ((with_reducible show Abs.Fin _ _ _ _ _ _); refine Fin.nt results351 [] ?_ ?_ ?_ <;> try trivial)
      | ((first | refine af e126 (c126 ..) rfl rfl ?_ | refine ag e126 (c126 ..) rfl rfl ?_ | refine ck e126 (c126 ..) rfl ?_ | refine af e259 (c259 ..) rfl rfl ?_ | refine ag e259 (c259 ..) rfl rfl ?_ | refine ck e259 (c259 ..) rfl ?_); simp (maxSteps := 2000000) (disch := omega) only [go_sem, ↓reduceIte, reduceCtorEq, Nat.reduceAdd, Nat.reduceMul, Nat.reduceSub, Nat.reduceLT, Nat.reduceLeDiff, Nat.reduceEqDiff, Int.reduceToNat, Int.reduceLT, Int.reduceLE, Int.reduceNeg, Int.reduceEq, Int.reduceNe, Int.reduceBEq, Int.reduceBNe, Int.reduceAdd, Int.reduceMul, Int.reduceSub, Int.reduceTDiv, Int.reduceTMod, Nat.reduceBEq, wrap_id, Int.tmod_eq_emod_of_nonneg, Int.tdiv_eq_ediv_of_nonneg, not_false_eq_true, ne_eq, List.length_map, w_1, s_1, t_1])
      | with_reducible intro h
      | ((with_reducible show _ /\ _); apply And.intro))
  all_goals try ((refine rsl ?_; try exact .intro))
  all_goals first | rfl | simp_all | omega
 ·(repeat' first
      | ((with_reducible show Abs.Fin _ _ _ _ _ _); refine Fin.nt results351 [] ?_ ?_ ?_ <;> try trivial)
      | ((first | refine af e126 (c126 ..) rfl rfl ?_ | refine ag e126 (c126 ..) rfl rfl ?_ | refine ck e126 (c126 ..) rfl ?_ | refine af e259 (c259 ..) rfl rfl ?_ | refine ag e259 (c259 ..) rfl rfl ?_ | refine ck e259 (c259 ..) rfl ?_); simp (maxSteps := 2000000) (disch := omega) only [go_sem, ↓reduceIte, reduceCtorEq, Nat.reduceAdd, Nat.reduceMul, Nat.reduceSub, Nat.reduceLT, Nat.reduceLeDiff, Nat.reduceEqDiff, Int.reduceToNat, Int.reduceLT, Int.reduceLE, Int.reduceNeg, Int.reduceEq, Int.reduceNe, Int.reduceBEq, Int.reduceBNe, Int.reduceAdd, Int.reduceMul, Int.reduceSub, Int.reduceTDiv, Int.reduceTMod, Nat.reduceBEq, wrap_id, Int.tmod_eq_emod_of_nonneg, Int.tdiv_eq_ediv_of_nonneg, not_false_eq_true, ne_eq, List.length_map, w_2, s_2, t_2])
      | with_reducible intro h
      | ((with_reducible show _ /\ _); apply And.intro))
  all_goals try ((refine rsl ?_; try exact .intro))
  all_goals first | rfl | simp_all | omega
 ·(repeat' first
      | ((with_reducible show Abs.Fin _ _ _ _ _ _); refine Fin.nt results351 [] ?_ ?_ ?_ <;> try trivial)
      | ((first | refine af e126 (c126 ..) rfl rfl ?_ | refine ag e126 (c126 ..) rfl rfl ?_ | refine ck e126 (c126 ..) rfl ?_ | refine af e259 (c259 ..) rfl rfl ?_ | refine ag e259 (c259 ..) rfl rfl ?_ | refine ck e259 (c259 ..) rfl ?_); simp (maxSteps := 2000000) (disch := omega) only [go_sem, ↓reduceIte, reduceCtorEq, Nat.reduceAdd, Nat.reduceMul, Nat.reduceSub, Nat.reduceLT, Nat.reduceLeDiff, Nat.reduceEqDiff, Int.reduceToNat, Int.reduceLT, Int.reduceLE, Int.reduceNeg, Int.reduceEq, Int.reduceNe, Int.reduceBEq, Int.reduceBNe, Int.reduceAdd, Int.reduceMul, Int.reduceSub, Int.reduceTDiv, Int.reduceTMod, Nat.reduceBEq, wrap_id, Int.tmod_eq_emod_of_nonneg, Int.tdiv_eq_ediv_of_nonneg, not_false_eq_true, ne_eq, List.length_map, hw, h1, h2])
      | with_reducible intro h
      | ((with_reducible show _ /\ _); apply And.intro))
  all_goals try ((refine rsl ?_; try exact .intro))
  all_goals first | rfl | simp_all | omega
theorem c354 (c : Int) : Ctr prog 354 [.one (.dat (.int .i64 c))] [] (.one (.dat (.int .i64 (perPage c)))) [] := by
 rcases aO c with rfl | rfl | rfl | ⟨hw, h1, h2, h3⟩
 all_goals
  refine Ctr.bd aa func354 rfl ?_
  refine evw ?_
 ·(repeat' first
      | ((with_reducible show Abs.Fin _ _ _ _ _ _); refine Fin.nt results354 [] ?_ ?_ ?_ <;> try trivial)
      | ((first | refine af e353 (c353 ..) rfl rfl ?_ | refine ag e353 (c353 ..) rfl rfl ?_ | refine ck e353 (c353 ..) rfl ?_ | refine af e355 (c355 ..) rfl rfl ?_ | refine ag e355 (c355 ..) rfl rfl ?_ | refine ck e355 (c355 ..) rfl ?_); simp (maxSteps := 2000000) (disch := omega) only [go_sem, ↓reduceIte, reduceCtorEq, Nat.reduceAdd, Nat.reduceMul, Nat.reduceSub, Nat.reduceLT, Nat.reduceLeDiff, Nat.reduceEqDiff, Int.reduceToNat, Int.reduceLT, Int.reduceLE, Int.reduceNeg, Int.reduceEq, Int.reduceNe, Int.reduceBEq, Int.reduceBNe, Int.reduceAdd, Int.reduceMul, Int.reduceSub, Int.reduceTDiv, Int.reduceTMod, Nat.reduceBEq, wrap_id, Int.tmod_eq_emod_of_nonneg, Int.tdiv_eq_ediv_of_nonneg, not_false_eq_true, ne_eq, List.length_map, w_0, t_0, p_0])
      | with_reducible intro h
      | ((with_reducible show _ /\ _); apply And.intro))
  all_goals try ((refine rsl ?_; try exact .intro))
  all_goals first | rfl | simp_all | omega
 ·(repeat' first
      | ((with_reducible show Abs.Fin _ _ _ _ _ _); refine Fin.nt results354 [] ?_ ?_ ?_ <;> try trivial)
      | ((first | refine af e353 (c353 ..) rfl rfl ?_ | refine ag e353 (c353 ..) rfl rfl ?_ | refine ck e353 (c353 ..) rfl ?_ | refine af e355 (c355 ..) rfl rfl ?_ | refine ag e355 (c355 ..) rfl rfl ?_ | refine ck e355 (c355 ..) rfl ?_); simp (maxSteps := 2000000) (disch := omega) only [go_sem, ↓reduceIte, reduceCtorEq, Nat.reduceAdd, Nat.reduceMul, Nat.reduceSub, Nat.reduceLT, Nat.reduceLeDiff, Nat.reduceEqDiff, Int.reduceToNat, Int.reduceLT, Int.reduceLE, Int.reduceNeg, Int.reduceEq, Int.reduceNe, Int.reduceBEq, Int.reduceBNe, Int.reduceAdd, Int.reduceMul, Int.reduceSub, Int.reduceTDiv, Int.reduceTMod, Nat.reduceBEq, wrap_id, Int.tmod_eq_emod_of_nonneg, Int.tdiv_eq_ediv_of_nonneg, not_false_eq_true, ne_eq, List.length_map, w_1, t_1, p_1])
      | with_reducible intro h
      | ((with_reducible show _ /\ _); apply And.intro))
  all_goals try ((refine rsl ?_; try exact .intro))
  all_goals first | rfl | simp_all | omega
 ·(repeat' first
      | ((with_reducible show Abs.Fin _ _ _ _ _ _); refine Fin.nt results354 [] ?_ ?_ ?_ <;> try trivial)
      | ((first | refine af e353 (c353 ..) rfl rfl ?_ | refine ag e353 (c353 ..) rfl rfl ?_ | refine ck e353 (c353 ..) rfl ?_ | refine af e355 (c355 ..) rfl rfl ?_ | refine ag e355 (c355 ..) rfl rfl ?_ | refine ck e355 (c355 ..) rfl ?_); simp (maxSteps := 2000000) (disch := omega) only [go_sem, ↓reduceIte, reduceCtorEq, Nat.reduceAdd, Nat.reduceMul, Nat.reduceSub, Nat.reduceLT, Nat.reduceLeDiff, Nat.reduceEqDiff, Int.reduceToNat, Int.reduceLT, Int.reduceLE, Int.reduceNeg, Int.reduceEq, Int.reduceNe, Int.reduceBEq, Int.reduceBNe, Int.reduceAdd, Int.reduceMul, Int.reduceSub, Int.reduceTDiv, Int.reduceTMod, Nat.reduceBEq, wrap_id, Int.tmod_eq_emod_of_nonneg, Int.tdiv_eq_ediv_of_nonneg, not_false_eq_true, ne_eq, List.length_map, w_2, t_2, p_2])
      | with_reducible intro h
      | ((with_reducible show _ /\ _); apply And.intro))
  all_goals try ((refine rsl ?_; try exact .intro))
  all_goals first | rfl | simp_all | omega
 ·(repeat' first
      | ((with_reducible show Abs.Fin _ _ _ _ _ _); refine Fin.nt results354 [] ?_ ?_ ?_ <;> try trivial)
      | ((first | refine af e353 (c353 ..) rfl rfl ?_ | refine ag e353 (c353 ..) rfl rfl ?_ | refine ck e353 (c353 ..) rfl ?_ | refine af e355 (c355 ..) rfl rfl ?_ | refine ag e355 (c355 ..) rfl rfl ?_ | refine ck e355 (c355 ..) rfl ?_); simp (maxSteps := 2000000) (disch := omega) only [go_sem, ↓reduceIte, reduceCtorEq, Nat.reduceAdd, Nat.reduceMul, Nat.reduceSub, Nat.reduceLT, Nat.reduceLeDiff, Nat.reduceEqDiff, Int.reduceToNat, Int.reduceLT, Int.reduceLE, Int.reduceNeg, Int.reduceEq, Int.reduceNe, Int.reduceBEq, Int.reduceBNe, Int.reduceAdd, Int.reduceMul, Int.reduceSub, Int.reduceTDiv, Int.reduceTMod, Nat.reduceBEq, wrap_id, Int.tmod_eq_emod_of_nonneg, Int.tdiv_eq_ediv_of_nonneg, not_false_eq_true, ne_eq, List.length_map, hw, h2, h3])
      | with_reducible intro h
      | ((with_reducible show _ /\ _); apply And.intro))
  all_goals try ((refine rsl ?_; try exact .intro))
  all_goals first | rfl | simp_all | omega
theorem c323 (c : Int) : Ctr prog 323 [.one (.dat (.int .i64 c))] [] (.one (.dat (.int .i64 (perPage c)))) [] := by
 rcases aO c with rfl | rfl | rfl | ⟨hw, h1, h2, h3⟩
 all_goals
  refine Ctr.bd aa func323 rfl ?_
  refine evw ?_
 ·(repeat' first
      | ((with_reducible show Abs.Fin _ _ _ _ _ _); refine Fin.nt results323 [] ?_ ?_ ?_ <;> try trivial)
      | ((first | refine af e126 (c126 ..) rfl rfl ?_ | refine ag e126 (c126 ..) rfl rfl ?_ | refine ck e126 (c126 ..) rfl ?_ | refine af e351 (c351 ..) rfl rfl ?_ | refine ag e351 (c351 ..) rfl rfl ?_ | refine ck e351 (c351 ..) rfl ?_); simp (maxSteps := 2000000) (disch := omega) only [go_sem, ↓reduceIte, reduceCtorEq, Nat.reduceAdd, Nat.reduceMul, Nat.reduceSub, Nat.reduceLT, Nat.reduceLeDiff, Nat.reduceEqDiff, Int.reduceToNat, Int.reduceLT, Int.reduceLE, Int.reduceNeg, Int.reduceEq, Int.reduceNe, Int.reduceBEq, Int.reduceBNe, Int.reduceAdd, Int.reduceMul, Int.reduceSub, Int.reduceTDiv, Int.reduceTMod, Nat.reduceBEq, wrap_id, Int.tmod_eq_emod_of_nonneg, Int.tdiv_eq_ediv_of_nonneg, not_false_eq_true, ne_eq, List.length_map, w_0, t_0, p_0])
      | with_reducible intro h
      | ((with_reducible show _ /\ _); apply And.intro))
  all_goals try ((refine rsl ?_; try exact .intro))
  all_goals first | rfl | simp_all | omega
 ·(repeat' first
      | ((with_reducible show Abs.Fin _ _ _ _ _ _); refine Fin.nt results323 [] ?_ ?_ ?_ <;> try trivial)
      | ((first | refine af e126 (c126 ..) rfl rfl ?_ | refine ag e126 (c126 ..) rfl rfl ?_ | refine ck e126 (c126 ..) rfl ?_ | refine af e351 (c351 ..) rfl rfl ?_ | refine ag e351 (c351 ..) rfl rfl ?_ | refine ck e351 (c351 ..) rfl ?_); simp (maxSteps := 2000000) (disch := omega) only [go_sem, ↓reduceIte, reduceCtorEq, Nat.reduceAdd, Nat.reduceMul, Nat.reduceSub, Nat.reduceLT, Nat.reduceLeDiff, Nat.reduceEqDiff, Int.reduceToNat, Int.reduceLT, Int.reduceLE, Int.reduceNeg, Int.reduceEq, Int.reduceNe, Int.reduceBEq, Int.reduceBNe, Int.reduceAdd, Int.reduceMul, Int.reduceSub, Int.reduceTDiv, Int.reduceTMod, Nat.reduceBEq, wrap_id, Int.tmod_eq_emod_of_nonneg, Int.tdiv_eq_ediv_of_nonneg, not_false_eq_true, ne_eq, List.length_map, w_1, t_1, p_1])
      | with_reducible intro h
      | ((with_reducible show _ /\ _); apply And.intro))
  all_goals try ((refine rsl ?_; try exact .intro))
  all_goals first | rfl | simp_all | omega
 ·(repeat' first
      | ((with_reducible show Abs.Fin _ _ _ _ _ _); refine Fin.nt results323 [] ?_ ?_ ?_ <;> try trivial)
      | ((first | refine af e126 (c126 ..) rfl rfl ?_ | refine ag e126 (c126 ..) rfl rfl ?_ | refine ck e126 (c126 ..) rfl ?_ | refine af e351 (c351 ..) rfl rfl ?_ | refine ag e351 (c351 ..) rfl rfl ?_ | refine ck e351 (c351 ..) rfl ?_); simp (maxSteps := 2000000) (disch := omega) only [go_sem, ↓reduceIte, reduceCtorEq, Nat.reduceAdd, Nat.reduceMul, Nat.reduceSub, Nat.reduceLT, Nat.reduceLeDiff, Nat.reduceEqDiff, Int.reduceToNat, Int.reduceLT, Int.reduceLE, Int.reduceNeg, Int.reduceEq, Int.reduceNe, Int.reduceBEq, Int.reduceBNe, Int.reduceAdd, Int.reduceMul, Int.reduceSub, Int.reduceTDiv, Int.reduceTMod, Nat.reduceBEq, wrap_id, Int.tmod_eq_emod_of_nonneg, Int.tdiv_eq_ediv_of_nonneg, not_false_eq_true, ne_eq, List.length_map, w_2, t_2, p_2])
      | with_reducible intro h
      | ((with_reducible show _ /\ _); apply And.intro))
  all_goals try ((refine rsl ?_; try exact .intro))
  all_goals first | rfl | simp_all | omega
 ·(repeat' first
      | ((with_reducible show Abs.Fin _ _ _ _ _ _); refine Fin.nt results323 [] ?_ ?_ ?_ <;> try trivial)
      | ((first | refine af e126 (c126 ..) rfl rfl ?_ | refine ag e126 (c126 ..) rfl rfl ?_ | refine ck e126 (c126 ..) rfl ?_ | refine af e351 (c351 ..) rfl rfl ?_ | refine ag e351 (c351 ..) rfl rfl ?_ | refine ck e351 (c351 ..) rfl ?_); simp (maxSteps := 2000000) (disch := omega) only [go_sem, ↓reduceIte, reduceCtorEq, Nat.reduceAdd, Nat.reduceMul, Nat.reduceSub, Nat.reduceLT, Nat.reduceLeDiff, Nat.reduceEqDiff, Int.reduceToNat, Int.reduceLT, Int.reduceLE, Int.reduceNeg, Int.reduceEq, Int.reduceNe, Int.reduceBEq, Int.reduceBNe, Int.reduceAdd, Int.reduceMul, Int.reduceSub, Int.reduceTDiv, Int.reduceTMod, Nat.reduceBEq, wrap_id, Int.tmod_eq_emod_of_nonneg, Int.tdiv_eq_ediv_of_nonneg, not_false_eq_true, ne_eq, List.length_map, hw, h2, h3])
      | with_reducible intro h
      | ((with_reducible show _ /\ _); apply And.intro))
  all_goals try ((refine rsl ?_; try exact .intro))
  all_goals first | rfl | simp_all | omega
def pageOf (s : Int) : Int := if 0 <= s /\ s <= 23 then s / 4 else -1
def indexOf (s : Int) : Int := if 0 <= s /\ s <= 23 then s % 4 else -1
theorem bE (s : Int) : (0 <= s /\ s <= 23 /\ within s 0 23 = true) \/ (¬ (0 <= s /\ s <= 23) /\ within s 0 23 = false) := by
 by_cases h : 0 <= s /\ s <= 23
 ·exact .inl ⟨h.1, h.2, by simp [within]; omega⟩
 ·exact .inr ⟨h, by simp [within]; omega⟩
theorem c321 (s : Int) : Ctr prog 321 [.one (.dat (.int .i64 s))] [] (.one (.dat (.int .i64 (pageOf s)))) [] := by
 rcases bE s with ⟨h1, h2, hw⟩ | ⟨h1, hw⟩
 all_goals
  refine Ctr.bd aa func321 rfl ?_
  refine evw ?_
  (repeat' first
      | ((with_reducible show Abs.Fin _ _ _ _ _ _); refine Fin.nt results321 [] ?_ ?_ ?_ <;> try trivial)
      | ((first | refine af e126 (c126 ..) rfl rfl ?_ | refine ag e126 (c126 ..) rfl rfl ?_ | refine ck e126 (c126 ..) rfl ?_); simp (maxSteps := 2000000) (disch := omega) only [go_sem, ↓reduceIte, reduceCtorEq, Nat.reduceAdd, Nat.reduceMul, Nat.reduceSub, Nat.reduceLT, Nat.reduceLeDiff, Nat.reduceEqDiff, Int.reduceToNat, Int.reduceLT, Int.reduceLE, Int.reduceNeg, Int.reduceEq, Int.reduceNe, Int.reduceBEq, Int.reduceBNe, Int.reduceAdd, Int.reduceMul, Int.reduceSub, Int.reduceTDiv, Int.reduceTMod, Nat.reduceBEq, wrap_id, Int.tmod_eq_emod_of_nonneg, Int.tdiv_eq_ediv_of_nonneg, not_false_eq_true, ne_eq, List.length_map, hw])
      | with_reducible intro h
      | ((with_reducible show _ /\ _); apply And.intro))
  all_goals try ((refine rsl ?_; try exact .intro))
  all_goals first | rfl | (unfold pageOf; split <;> first | rfl | omega) | (simp_all [pageOf]; done) | omega
theorem c322 (s : Int) : Ctr prog 322 [.one (.dat (.int .i64 s))] [] (.one (.dat (.int .i64 (indexOf s)))) [] := by
 rcases bE s with ⟨h1, h2, hw⟩ | ⟨h1, hw⟩
 all_goals
  refine Ctr.bd aa func322 rfl ?_
  refine evw ?_
  (repeat' first
      | ((with_reducible show Abs.Fin _ _ _ _ _ _); refine Fin.nt results322 [] ?_ ?_ ?_ <;> try trivial)
      | ((first | refine af e126 (c126 ..) rfl rfl ?_ | refine ag e126 (c126 ..) rfl rfl ?_ | refine ck e126 (c126 ..) rfl ?_); simp (maxSteps := 2000000) (disch := omega) only [go_sem, ↓reduceIte, reduceCtorEq, Nat.reduceAdd, Nat.reduceMul, Nat.reduceSub, Nat.reduceLT, Nat.reduceLeDiff, Nat.reduceEqDiff, Int.reduceToNat, Int.reduceLT, Int.reduceLE, Int.reduceNeg, Int.reduceEq, Int.reduceNe, Int.reduceBEq, Int.reduceBNe, Int.reduceAdd, Int.reduceMul, Int.reduceSub, Int.reduceTDiv, Int.reduceTMod, Nat.reduceBEq, wrap_id, Int.tmod_eq_emod_of_nonneg, Int.tdiv_eq_ediv_of_nonneg, not_false_eq_true, ne_eq, List.length_map, hw])
      | with_reducible intro h
      | ((with_reducible show _ /\ _); apply And.intro))
  all_goals try ((refine rsl ?_; try exact .intro))
  all_goals first | rfl | (unfold indexOf; split <;> first | rfl | omega) | (simp_all [indexOf]; done) | omega
theorem c360 (p i : Int) (hp : 0 <= p /\ p <= 5) (hi : 0 <= i /\ i <= 3) : Ctr prog 360 [.one (.dat (.int .i64 p)), .one (.dat (.int .i64 i))] [] (.one (.dat (.int .i64 (p * 4 + i)))) [] := by
 have w1 : within p 0 5 = true := by simp [within]; omega
 have w2 : within i 0 3 = true := by simp [within]; omega
 refine Ctr.bd aa func360 rfl ?_
 refine evw ?_
 (repeat' first
      | ((with_reducible show Abs.Fin _ _ _ _ _ _); refine Fin.nt results360 [] ?_ ?_ ?_ <;> try trivial)
      | ((first | refine af e126 (c126 ..) rfl rfl ?_ | refine ag e126 (c126 ..) rfl rfl ?_ | refine ck e126 (c126 ..) rfl ?_); simp (maxSteps := 2000000) (disch := omega) only [go_sem, ↓reduceIte, reduceCtorEq, Nat.reduceAdd, Nat.reduceMul, Nat.reduceSub, Nat.reduceLT, Nat.reduceLeDiff, Nat.reduceEqDiff, Int.reduceToNat, Int.reduceLT, Int.reduceLE, Int.reduceNeg, Int.reduceEq, Int.reduceNe, Int.reduceBEq, Int.reduceBNe, Int.reduceAdd, Int.reduceMul, Int.reduceSub, Int.reduceTDiv, Int.reduceTMod, Nat.reduceBEq, wrap_id, Int.tmod_eq_emod_of_nonneg, Int.tdiv_eq_ediv_of_nonneg, not_false_eq_true, ne_eq, List.length_map, w1, w2])
      | with_reducible intro h
      | ((with_reducible show _ /\ _); apply And.intro))
 all_goals try ((refine rsl ?_; try exact .intro))
 all_goals first | rfl | (simp_all; done) | omega
theorem c325 (s c : Int) : Ctr prog 325 [.one (.dat (.int .i64 s)), .one (.dat (.int .i64 c))] [] (.one (.dat (.int .i64 (genAt s c)))) [] := by
 rcases bE s with ⟨h1, h2, hw⟩ | ⟨h1, hw⟩
 ·rcases aO c with rfl | rfl | rfl | ⟨hv, g1, g2, g3⟩
  all_goals
   refine Ctr.bd aa func325 rfl ?_
   refine evw ?_
  ·(repeat' first
      | ((with_reducible show Abs.Fin _ _ _ _ _ _); refine Fin.nt results325 [] ?_ ?_ ?_ <;> try trivial)
      | ((first | refine af e326 (c326 ..) rfl rfl ?_ | refine ag e326 (c326 ..) rfl rfl ?_ | refine ck e326 (c326 ..) rfl ?_ | refine af e353 (c353 ..) rfl rfl ?_ | refine ag e353 (c353 ..) rfl rfl ?_ | refine ck e353 (c353 ..) rfl ?_ | refine af e354 (c354 ..) rfl rfl ?_ | refine ag e354 (c354 ..) rfl rfl ?_ | refine ck e354 (c354 ..) rfl ?_ | refine af e355 (c355 ..) rfl rfl ?_ | refine ag e355 (c355 ..) rfl rfl ?_ | refine ck e355 (c355 ..) rfl ?_); simp (maxSteps := 2000000) (disch := omega) only [go_sem, ↓reduceIte, reduceCtorEq, Nat.reduceAdd, Nat.reduceMul, Nat.reduceSub, Nat.reduceLT, Nat.reduceLeDiff, Nat.reduceEqDiff, Int.reduceToNat, Int.reduceLT, Int.reduceLE, Int.reduceNeg, Int.reduceEq, Int.reduceNe, Int.reduceBEq, Int.reduceBNe, Int.reduceAdd, Int.reduceMul, Int.reduceSub, Int.reduceTDiv, Int.reduceTMod, Nat.reduceBEq, wrap_id, Int.tmod_eq_emod_of_nonneg, Int.tdiv_eq_ediv_of_nonneg, not_false_eq_true, ne_eq, List.length_map, hw, w_0, p_0, t_0])
      | with_reducible intro h
      | ((with_reducible show _ /\ _); apply And.intro))
   all_goals try ((refine rsl ?_; try exact .intro))
   all_goals try rfl
   all_goals simp only [decide_eq_true_eq, decide_eq_false_iff_not] at h
   ·exact (cX (by rw [p_0]; omega)).symm
   ·rw [genAt_pos h1 h2 (by rw [p_0]; omega), t_0]
  ·(repeat' first
      | ((with_reducible show Abs.Fin _ _ _ _ _ _); refine Fin.nt results325 [] ?_ ?_ ?_ <;> try trivial)
      | ((first | refine af e326 (c326 ..) rfl rfl ?_ | refine ag e326 (c326 ..) rfl rfl ?_ | refine ck e326 (c326 ..) rfl ?_ | refine af e353 (c353 ..) rfl rfl ?_ | refine ag e353 (c353 ..) rfl rfl ?_ | refine ck e353 (c353 ..) rfl ?_ | refine af e354 (c354 ..) rfl rfl ?_ | refine ag e354 (c354 ..) rfl rfl ?_ | refine ck e354 (c354 ..) rfl ?_ | refine af e355 (c355 ..) rfl rfl ?_ | refine ag e355 (c355 ..) rfl rfl ?_ | refine ck e355 (c355 ..) rfl ?_); simp (maxSteps := 2000000) (disch := omega) only [go_sem, ↓reduceIte, reduceCtorEq, Nat.reduceAdd, Nat.reduceMul, Nat.reduceSub, Nat.reduceLT, Nat.reduceLeDiff, Nat.reduceEqDiff, Int.reduceToNat, Int.reduceLT, Int.reduceLE, Int.reduceNeg, Int.reduceEq, Int.reduceNe, Int.reduceBEq, Int.reduceBNe, Int.reduceAdd, Int.reduceMul, Int.reduceSub, Int.reduceTDiv, Int.reduceTMod, Nat.reduceBEq, wrap_id, Int.tmod_eq_emod_of_nonneg, Int.tdiv_eq_ediv_of_nonneg, not_false_eq_true, ne_eq, List.length_map, hw, w_1, p_1, t_1])
      | with_reducible intro h
      | ((with_reducible show _ /\ _); apply And.intro))
   all_goals try ((refine rsl ?_; try exact .intro))
   all_goals try rfl
   all_goals simp only [decide_eq_true_eq, decide_eq_false_iff_not] at h
   ·exact (cX (by rw [p_1]; omega)).symm
   ·rw [genAt_pos h1 h2 (by rw [p_1]; omega), t_1]
  ·(repeat' first
      | ((with_reducible show Abs.Fin _ _ _ _ _ _); refine Fin.nt results325 [] ?_ ?_ ?_ <;> try trivial)
      | ((first | refine af e326 (c326 ..) rfl rfl ?_ | refine ag e326 (c326 ..) rfl rfl ?_ | refine ck e326 (c326 ..) rfl ?_ | refine af e353 (c353 ..) rfl rfl ?_ | refine ag e353 (c353 ..) rfl rfl ?_ | refine ck e353 (c353 ..) rfl ?_ | refine af e354 (c354 ..) rfl rfl ?_ | refine ag e354 (c354 ..) rfl rfl ?_ | refine ck e354 (c354 ..) rfl ?_ | refine af e355 (c355 ..) rfl rfl ?_ | refine ag e355 (c355 ..) rfl rfl ?_ | refine ck e355 (c355 ..) rfl ?_); simp (maxSteps := 2000000) (disch := omega) only [go_sem, ↓reduceIte, reduceCtorEq, Nat.reduceAdd, Nat.reduceMul, Nat.reduceSub, Nat.reduceLT, Nat.reduceLeDiff, Nat.reduceEqDiff, Int.reduceToNat, Int.reduceLT, Int.reduceLE, Int.reduceNeg, Int.reduceEq, Int.reduceNe, Int.reduceBEq, Int.reduceBNe, Int.reduceAdd, Int.reduceMul, Int.reduceSub, Int.reduceTDiv, Int.reduceTMod, Nat.reduceBEq, wrap_id, Int.tmod_eq_emod_of_nonneg, Int.tdiv_eq_ediv_of_nonneg, not_false_eq_true, ne_eq, List.length_map, hw, w_2, p_2, t_2])
      | with_reducible intro h
      | ((with_reducible show _ /\ _); apply And.intro))
   all_goals try ((refine rsl ?_; try exact .intro))
   all_goals try rfl
   all_goals simp only [decide_eq_true_eq, decide_eq_false_iff_not] at h
   ·exact (cX (by rw [p_2]; omega)).symm
   ·rw [genAt_pos h1 h2 (by rw [p_2]; omega), t_2]
  ·(repeat' first
      | ((with_reducible show Abs.Fin _ _ _ _ _ _); refine Fin.nt results325 [] ?_ ?_ ?_ <;> try trivial)
      | ((first | refine af e326 (c326 ..) rfl rfl ?_ | refine ag e326 (c326 ..) rfl rfl ?_ | refine ck e326 (c326 ..) rfl ?_ | refine af e353 (c353 ..) rfl rfl ?_ | refine ag e353 (c353 ..) rfl rfl ?_ | refine ck e353 (c353 ..) rfl ?_ | refine af e354 (c354 ..) rfl rfl ?_ | refine ag e354 (c354 ..) rfl rfl ?_ | refine ck e354 (c354 ..) rfl ?_ | refine af e355 (c355 ..) rfl rfl ?_ | refine ag e355 (c355 ..) rfl rfl ?_ | refine ck e355 (c355 ..) rfl ?_); simp (maxSteps := 2000000) (disch := omega) only [go_sem, ↓reduceIte, reduceCtorEq, Nat.reduceAdd, Nat.reduceMul, Nat.reduceSub, Nat.reduceLT, Nat.reduceLeDiff, Nat.reduceEqDiff, Int.reduceToNat, Int.reduceLT, Int.reduceLE, Int.reduceNeg, Int.reduceEq, Int.reduceNe, Int.reduceBEq, Int.reduceBNe, Int.reduceAdd, Int.reduceMul, Int.reduceSub, Int.reduceTDiv, Int.reduceTMod, Nat.reduceBEq, wrap_id, Int.tmod_eq_emod_of_nonneg, Int.tdiv_eq_ediv_of_nonneg, not_false_eq_true, ne_eq, List.length_map, hw, hv, g2, g3])
      | with_reducible intro h
      | ((with_reducible show _ /\ _); apply And.intro))
   all_goals try ((refine rsl ?_; try exact .intro))
   all_goals first | rfl | (simp_all [genAt]; omega) | (simp_all [genAt]; done) | omega
 ·refine Ctr.bd aa func325 rfl ?_
  refine evw ?_
  (repeat' first
      | ((with_reducible show Abs.Fin _ _ _ _ _ _); refine Fin.nt results325 [] ?_ ?_ ?_ <;> try trivial)
      | ((first | refine af e326 (c326 ..) rfl rfl ?_ | refine ag e326 (c326 ..) rfl rfl ?_ | refine ck e326 (c326 ..) rfl ?_ | refine af e353 (c353 ..) rfl rfl ?_ | refine ag e353 (c353 ..) rfl rfl ?_ | refine ck e353 (c353 ..) rfl ?_ | refine af e354 (c354 ..) rfl rfl ?_ | refine ag e354 (c354 ..) rfl rfl ?_ | refine ck e354 (c354 ..) rfl ?_ | refine af e355 (c355 ..) rfl rfl ?_ | refine ag e355 (c355 ..) rfl rfl ?_ | refine ck e355 (c355 ..) rfl ?_); simp (maxSteps := 2000000) (disch := omega) only [go_sem, ↓reduceIte, reduceCtorEq, Nat.reduceAdd, Nat.reduceMul, Nat.reduceSub, Nat.reduceLT, Nat.reduceLeDiff, Nat.reduceEqDiff, Int.reduceToNat, Int.reduceLT, Int.reduceLE, Int.reduceNeg, Int.reduceEq, Int.reduceNe, Int.reduceBEq, Int.reduceBNe, Int.reduceAdd, Int.reduceMul, Int.reduceSub, Int.reduceTDiv, Int.reduceTMod, Nat.reduceBEq, wrap_id, Int.tmod_eq_emod_of_nonneg, Int.tdiv_eq_ediv_of_nonneg, not_false_eq_true, ne_eq, List.length_map, hw])
      | with_reducible intro h
      | ((with_reducible show _ /\ _); apply And.intro))
  all_goals try ((refine rsl ?_; try exact .intro))
  all_goals first | rfl | (simp_all [genAt]; done) | (simp_all [genAt]; omega) | omega
theorem c320 (s c : Int) : Ctr prog 320 [.one (.dat (.int .i64 s)), .one (.dat (.int .i64 c))] [] (.one (.dat (.int .i64 (genAt s c)))) [] := by
 have hp := li c
 have ht := hP c
 rcases bE s with ⟨h1, h2, hw⟩ | ⟨h1, hw⟩
 ·have e1 : pageOf s = s / 4 := by simp [pageOf, h1, h2]
  have e2 : indexOf s = s % 4 := by simp [indexOf, h1, h2]
  have hb : 0 <= s % 4 * strideOf c /\ s % 4 * strideOf c <= 132 := by
   rcases aO c with rfl | rfl | rfl | ⟨_, _, e, _⟩
   ·rw [t_0]; omega
   ·rw [t_1]; omega
   ·rw [t_2]; omega
   ·rw [e]; omega
  refine Ctr.bd aa func320 rfl ?_
  refine evw ?_
  (repeat' first
      | ((with_reducible show Abs.Fin _ _ _ _ _ _); refine Fin.nt results320 [] ?_ ?_ ?_ <;> try trivial)
      | ((first | refine af e321 (c321 ..) rfl rfl ?_ | refine ag e321 (c321 ..) rfl rfl ?_ | refine ck e321 (c321 ..) rfl ?_ | refine af e322 (c322 ..) rfl rfl ?_ | refine ag e322 (c322 ..) rfl rfl ?_ | refine ck e322 (c322 ..) rfl ?_ | refine af e126 (c126 ..) rfl rfl ?_ | refine ag e126 (c126 ..) rfl rfl ?_ | refine ck e126 (c126 ..) rfl ?_ | refine af e323 (c323 ..) rfl rfl ?_ | refine ag e323 (c323 ..) rfl rfl ?_ | refine ck e323 (c323 ..) rfl ?_ | refine af e351 (c351 ..) rfl rfl ?_ | refine ag e351 (c351 ..) rfl rfl ?_ | refine ck e351 (c351 ..) rfl ?_); simp (maxSteps := 2000000) (disch := omega) only [go_sem, ↓reduceIte, reduceCtorEq, Nat.reduceAdd, Nat.reduceMul, Nat.reduceSub, Nat.reduceLT, Nat.reduceLeDiff, Nat.reduceEqDiff, Int.reduceToNat, Int.reduceLT, Int.reduceLE, Int.reduceNeg, Int.reduceEq, Int.reduceNe, Int.reduceBEq, Int.reduceBNe, Int.reduceAdd, Int.reduceMul, Int.reduceSub, Int.reduceTDiv, Int.reduceTMod, Nat.reduceBEq, wrap_id, Int.tmod_eq_emod_of_nonneg, Int.tdiv_eq_ediv_of_nonneg, not_false_eq_true, ne_eq, List.length_map, e1, e2])
      | with_reducible intro h
      | ((with_reducible show _ /\ _); apply And.intro))
  all_goals try ((refine rsl ?_; try exact .intro))
  all_goals first | rfl | omega | (simp_all [genAt, within]; done) | (simp_all [genAt, within]; omega)
 ·have e1 : pageOf s = -1 := by simp only [pageOf, if_neg h1]
  refine Ctr.bd aa func320 rfl ?_
  refine evw ?_
  (repeat' first
      | ((with_reducible show Abs.Fin _ _ _ _ _ _); refine Fin.nt results320 [] ?_ ?_ ?_ <;> try trivial)
      | ((first | refine af e321 (c321 ..) rfl rfl ?_ | refine ag e321 (c321 ..) rfl rfl ?_ | refine ck e321 (c321 ..) rfl ?_ | refine af e322 (c322 ..) rfl rfl ?_ | refine ag e322 (c322 ..) rfl rfl ?_ | refine ck e322 (c322 ..) rfl ?_ | refine af e126 (c126 ..) rfl rfl ?_ | refine ag e126 (c126 ..) rfl rfl ?_ | refine ck e126 (c126 ..) rfl ?_ | refine af e323 (c323 ..) rfl rfl ?_ | refine ag e323 (c323 ..) rfl rfl ?_ | refine ck e323 (c323 ..) rfl ?_ | refine af e351 (c351 ..) rfl rfl ?_ | refine ag e351 (c351 ..) rfl rfl ?_ | refine ck e351 (c351 ..) rfl ?_); simp (maxSteps := 2000000) (disch := omega) only [go_sem, ↓reduceIte, reduceCtorEq, Nat.reduceAdd, Nat.reduceMul, Nat.reduceSub, Nat.reduceLT, Nat.reduceLeDiff, Nat.reduceEqDiff, Int.reduceToNat, Int.reduceLT, Int.reduceLE, Int.reduceNeg, Int.reduceEq, Int.reduceNe, Int.reduceBEq, Int.reduceBNe, Int.reduceAdd, Int.reduceMul, Int.reduceSub, Int.reduceTDiv, Int.reduceTMod, Nat.reduceBEq, wrap_id, Int.tmod_eq_emod_of_nonneg, Int.tdiv_eq_ediv_of_nonneg, not_false_eq_true, ne_eq, List.length_map, e1])
      | with_reducible intro h
      | ((with_reducible show _ /\ _); apply And.intro))
  all_goals try ((refine rsl ?_; try exact .intro))
  all_goals first | rfl | omega | (simp_all [genAt]; done) | (simp_all [genAt]; omega)
theorem c264 (s c : Int) : Ctr prog 264 [.one (.dat (.int .i64 s)), .one (.dat (.int .i64 c))] [] (.one (.dat (.int .i64 (startOf s c)))) [] := by
 have hb : genAt s c < 0 \/ (0 <= genAt s c /\ genAt s c <= 400) := by
  by_cases h : 0 <= genAt s c
  ·have := dc h
   have hs : 0 <= sizeOf c := by unfold sizeOf; repeat' split <;> omega
   exact .inr ⟨h, by omega⟩
  ·exact .inl (by omega)
 refine Ctr.bd aa func264 rfl ?_
 refine evw ?_
 refine ae e325 (c325 s c) rfl ?_
 rcases hb with hb | hb
 all_goals
  refine evw ?_
  (repeat' first
      | ((with_reducible show Abs.Fin _ _ _ _ _ _); refine Fin.nt results264 [] ?_ ?_ ?_ <;> try trivial)
      | with_reducible intro h
      | ((with_reducible show _ /\ _); apply And.intro))
  all_goals try ((refine rsl ?_; try exact .intro))
  all_goals first | rfl | (simp_all [startOf]; done) | (simp_all [startOf]; omega) | omega
theorem c260 (s c : Int) : Ctr prog 260 [.one (.dat (.int .i64 s)), .one (.dat (.int .i64 c))] [] (.one (.dat (.int .i64 (startOf s c)))) [] := by
 have hb : genAt s c < 0 \/ (0 <= genAt s c /\ genAt s c <= 400) := by
  by_cases h : 0 <= genAt s c
  ·have := dc h
   have hs : 0 <= sizeOf c := by unfold sizeOf; repeat' split <;> omega
   exact .inr ⟨h, by omega⟩
  ·exact .inl (by omega)
 refine Ctr.bd aa func260 rfl ?_
 refine evw ?_
 refine ae e320 (c320 s c) rfl ?_
 rcases hb with hb | hb
 all_goals
  refine evw ?_
  (repeat' first
      | ((with_reducible show Abs.Fin _ _ _ _ _ _); refine Fin.nt results260 [] ?_ ?_ ?_ <;> try trivial)
      | with_reducible intro h
      | ((with_reducible show _ /\ _); apply And.intro))
  all_goals try ((refine rsl ?_; try exact .intro))
  all_goals first | rfl | (simp_all [startOf]; done) | (simp_all [startOf]; omega) | omega
def handleSlot (h : Int) : Int := if handleOk h = true then h % 32 else -1
def handleGen (h : Int) : Int := if handleOk h = true then h / 32 else 0
theorem bA (h : Int) : handleOk h = true ↔ 32 <= h /\ h <= 223 /\ h % 32 < 24 := by simp [handleOk, within]; omega
theorem c255 (h : Int) : Ctr prog 255 [.one (.dat (.int .i64 h))] [] (.one (.dat (.int .i64 (handleSlot h)))) [] := by
 rcases Bool.eq_false_or_eq_true (handleOk h) with hh | hh
 ·have hb := (bA h).1 hh
  refine Ctr.bd aa func255 rfl ?_
  refine evw ?_
  (repeat' first
      | ((with_reducible show Abs.Fin _ _ _ _ _ _); refine Fin.nt results255 [] ?_ ?_ ?_ <;> try trivial)
      | ((first | refine af e253 (c253 ..) rfl rfl ?_ | refine ag e253 (c253 ..) rfl rfl ?_ | refine ck e253 (c253 ..) rfl ?_); simp (maxSteps := 2000000) (disch := omega) only [go_sem, ↓reduceIte, reduceCtorEq, Nat.reduceAdd, Nat.reduceMul, Nat.reduceSub, Nat.reduceLT, Nat.reduceLeDiff, Nat.reduceEqDiff, Int.reduceToNat, Int.reduceLT, Int.reduceLE, Int.reduceNeg, Int.reduceEq, Int.reduceNe, Int.reduceBEq, Int.reduceBNe, Int.reduceAdd, Int.reduceMul, Int.reduceSub, Int.reduceTDiv, Int.reduceTMod, Nat.reduceBEq, wrap_id, Int.tmod_eq_emod_of_nonneg, Int.tdiv_eq_ediv_of_nonneg, not_false_eq_true, ne_eq, List.length_map, hh])
      | with_reducible intro h
      | ((with_reducible show _ /\ _); apply And.intro))
  all_goals try ((refine rsl ?_; try exact .intro))
  all_goals first | rfl | (simp_all [handleSlot]; done) | omega
 ·refine Ctr.bd aa func255 rfl ?_
  refine evw ?_
  (repeat' first
      | ((with_reducible show Abs.Fin _ _ _ _ _ _); refine Fin.nt results255 [] ?_ ?_ ?_ <;> try trivial)
      | ((first | refine af e253 (c253 ..) rfl rfl ?_ | refine ag e253 (c253 ..) rfl rfl ?_ | refine ck e253 (c253 ..) rfl ?_); simp (maxSteps := 2000000) (disch := omega) only [go_sem, ↓reduceIte, reduceCtorEq, Nat.reduceAdd, Nat.reduceMul, Nat.reduceSub, Nat.reduceLT, Nat.reduceLeDiff, Nat.reduceEqDiff, Int.reduceToNat, Int.reduceLT, Int.reduceLE, Int.reduceNeg, Int.reduceEq, Int.reduceNe, Int.reduceBEq, Int.reduceBNe, Int.reduceAdd, Int.reduceMul, Int.reduceSub, Int.reduceTDiv, Int.reduceTMod, Nat.reduceBEq, wrap_id, Int.tmod_eq_emod_of_nonneg, Int.tdiv_eq_ediv_of_nonneg, not_false_eq_true, ne_eq, List.length_map, hh])
      | with_reducible intro h
      | ((with_reducible show _ /\ _); apply And.intro))
  all_goals try ((refine rsl ?_; try exact .intro))
  all_goals first | rfl | (simp_all [handleSlot]; done) | omega
theorem c257 (h : Int) : Ctr prog 257 [.one (.dat (.int .i64 h))] [] (.one (.dat (.int .i64 (handleGen h)))) [] := by
 rcases Bool.eq_false_or_eq_true (handleOk h) with hh | hh
 ·have hb := (bA h).1 hh
  refine Ctr.bd aa func257 rfl ?_
  refine evw ?_
  (repeat' first
      | ((with_reducible show Abs.Fin _ _ _ _ _ _); refine Fin.nt results257 [] ?_ ?_ ?_ <;> try trivial)
      | ((first | refine af e253 (c253 ..) rfl rfl ?_ | refine ag e253 (c253 ..) rfl rfl ?_ | refine ck e253 (c253 ..) rfl ?_); simp (maxSteps := 2000000) (disch := omega) only [go_sem, ↓reduceIte, reduceCtorEq, Nat.reduceAdd, Nat.reduceMul, Nat.reduceSub, Nat.reduceLT, Nat.reduceLeDiff, Nat.reduceEqDiff, Int.reduceToNat, Int.reduceLT, Int.reduceLE, Int.reduceNeg, Int.reduceEq, Int.reduceNe, Int.reduceBEq, Int.reduceBNe, Int.reduceAdd, Int.reduceMul, Int.reduceSub, Int.reduceTDiv, Int.reduceTMod, Nat.reduceBEq, wrap_id, Int.tmod_eq_emod_of_nonneg, Int.tdiv_eq_ediv_of_nonneg, not_false_eq_true, ne_eq, List.length_map, hh])
      | with_reducible intro h
      | ((with_reducible show _ /\ _); apply And.intro))
  all_goals try ((refine rsl ?_; try exact .intro))
  all_goals first | rfl | (simp_all [handleGen]; done) | omega
 ·refine Ctr.bd aa func257 rfl ?_
  refine evw ?_
  (repeat' first
      | ((with_reducible show Abs.Fin _ _ _ _ _ _); refine Fin.nt results257 [] ?_ ?_ ?_ <;> try trivial)
      | ((first | refine af e253 (c253 ..) rfl rfl ?_ | refine ag e253 (c253 ..) rfl rfl ?_ | refine ck e253 (c253 ..) rfl ?_); simp (maxSteps := 2000000) (disch := omega) only [go_sem, ↓reduceIte, reduceCtorEq, Nat.reduceAdd, Nat.reduceMul, Nat.reduceSub, Nat.reduceLT, Nat.reduceLeDiff, Nat.reduceEqDiff, Int.reduceToNat, Int.reduceLT, Int.reduceLE, Int.reduceNeg, Int.reduceEq, Int.reduceNe, Int.reduceBEq, Int.reduceBNe, Int.reduceAdd, Int.reduceMul, Int.reduceSub, Int.reduceTDiv, Int.reduceTMod, Nat.reduceBEq, wrap_id, Int.tmod_eq_emod_of_nonneg, Int.tdiv_eq_ediv_of_nonneg, not_false_eq_true, ne_eq, List.length_map, hh])
      | with_reducible intro h
      | ((with_reducible show _ /\ _); apply And.intro))
  all_goals try ((refine rsl ?_; try exact .intro))
  all_goals first | rfl | (simp_all [handleGen]; done) | omega
def bytesOk (l : List Int) : Bool := decide ((l.length : Int) <= 1000) && l.all (fun x => within x 0 255)
def loadGo (n : Int) : List Int -> Int
 | [] => n
 | x :: r => loadGo (256 * n + x) r
def loadN (b : List Int) (a w : Nat) : Int := loadGo 0 ((b.drop a).take w)
def isByteL (l : List Int) : Prop := ∀ x ∈ l, 0 <= x /\ x <= 255
theorem j1 {l : List Int} (h : bytesOk l = true) : l.length <= 1000 /\ isByteL l := by
 simp only [bytesOk, Bool.and_eq_true, decide_eq_true_eq, List.all_eq_true] at h
 refine ⟨by omega, fun x hx => ?_⟩
 have := h.2 x hx
 simpa [within] using this
theorem mi {i : Nat} (h : i <= 7) : (256 : Int) ^ i <= 72057594037927936 /\ (i <= 6 -> (256 : Int) ^ i <= 281474976710656) := by
 have : i = 0 \/ i = 1 \/ i = 2 \/ i = 3 \/ i = 4 \/ i = 5 \/ i = 6 \/ i = 7 := by omega
 rcases this with rfl | rfl | rfl | rfl | rfl | rfl | rfl | rfl
 all_goals decide
theorem c367 (x : Int) : Ctr prog 367 [.one (.dat (.int .i64 x))] [] (.one (.dat (.bool (!within x 0 255)))) [] := by
 refine Ctr.bd aa func367 rfl ?_
 refine evw ?_
 refine ck e368 (c368 x) rfl ?_
 refine evw ?_
 refine Fin.nt results367 [] ?_ ?_ ?_ <;> try trivial
theorem c361 (l : List Int) (hl : l.length <= maxLen) : Ctr prog 361 [.one (.dat (.sl 1 (l.map encI)))] [] (.one (.dat (.bool (bytesOk l)))) [] := by
 refine Ctr.bd aa func361 rfl ?_
 refine sv18 ?_
 refine scs ?_
 refine ck e139 (dk l hl e367 (fun x _ => c367 x)) rfl ?_
 refine sv18 ?_
 refine scs ?_
 refine Fin.nt results361 [] ?_ ?_ ?_ <;> try trivial
 (refine rsl ?_; try exact .intro)
 simp only [bytesOk, <- aG]
 cases decide ((l.length : Int) <= 1000) <;> rfl
theorem c359 (l : List Int) (hl : l.length <= maxLen) : Ctr prog 359 [.one (.dat (.sl 1 (l.map encI)))] [] (.one (.dat (.bool (bytesOk l)))) [] := by
 refine Ctr.bd aa func359 rfl ?_
 refine evl ?_
 refine ab (fun zn zs => ∃ i : Nat, i <= l.length /\ zn = l.length - i /\ ((l.all fun x => within x 0 255) = (l.drop i).all fun x => within x 0 255) /\ zs = mkSt [(3, .one (.dat (.int .i64 i))), (0, .one (.dat (.sl 1 (l.map encI))))] []) (l.length) _
  (Ent.wk []) ⟨0, by omega, by omega, by simp, rfl⟩ ?_
 rintro zn zs ⟨i, hi, rfl, hinv, rfl⟩ K hK
 rcases Nat.lt_or_ge i (l.length) with hlt | hge
 ·have hdi : decide ((i : Int) < ((l.length : Nat) : Int)) = true := decide_eq_true (by omega)
  have hw := ah hlt hl
  rw [List.drop_eq_getElem_cons hlt, List.all_cons] at hinv
  refine sv13 ?_
  refine scs ?_
  refine ck e126 (c126 l[i] 0 255) rfl ?_
  refine sv13 ?_
  constructor <;> intro h
  ·have h' : within l[i] 0 255 = false := by simpa using h
   rw [h', Bool.false_and] at hinv
   apply hK
   refine sv13 ?_
   refine Fin.nt results359 [] ?_ ?_ ?_ <;> try trivial
   (refine rsl ?_; try exact .intro)
   simp [bytesOk, hinv]
  ·have h' : within l[i] 0 255 = true := by simpa using h
   rw [h', Bool.true_and] at hinv
   (apply hK
    exact ⟨l.length - (i + 1), _, by omega, Ent.wk [], i + 1, by omega, rfl, hinv, rfl⟩)
 ·have hge' : l.length = i := by omega
  subst hge'
  have hdi : decide (((l.length : Nat) : Int) < ((l.length : Nat) : Int)) = false := by simp
  rw [List.drop_length, List.all_nil] at hinv
  refine sv3 ?_
  apply hK
  refine sv18 ?_
  refine Fin.nt results359 [] ?_ ?_ ?_ <;> try trivial
  (refine rsl ?_; try exact .intro)
  simp [bytesOk, hinv]
theorem c161 (b : List Int) (hl : b.length <= 16777216) (a : Int) (n : Nat) (ha : a = n) (wi : Int) (w : Nat) (hwi : wi = w) (hw7 : w <= 7) (haw : n + w <= b.length) (hb : isByteL b) : Ctr prog 161 [.one (.dat (.sl 1 (b.map encI))), .one (.dat (.int .i64 a)), .one (.dat (.int .i64 wi))] [] (.one (.dat (.int .i64 (loadN b n w)))) [] := by
 subst ha hwi
 have hLl : ((b.drop n).take w).length = w := by simp; omega
 have hwr : IntKind.i64.wrap ((n : Int) + w) = ((n + w : Nat) : Int) := by rw [wrap_id] <;> omega
 have hrows : ((b.map encI).drop n).take w = ((b.drop n).take w).map encI := by rw [List.map_take, List.map_drop]
 have hLb : ∀ x ∈ (b.drop n).take w, 0 <= x /\ x <= 255 := fun x hx => hb x (List.mem_of_mem_drop (List.mem_of_mem_take hx))
 unfold loadN
 refine Ctr.bd aa func161 rfl ?_
 simp (maxSteps := 2000000) only [go_sem, seval, hwr, Nat.add_sub_cancel_left, hrows, hLl]
 refine scs ?_
 refine ab (fun zn zs => ∃ (i : Nat) (m : Int), i <= w /\ zn = w - i /\ (0 <= m /\ m + 1 <= 256 ^ i /\ loadGo 0 ((b.drop n).take w) = loadGo m (((b.drop n).take w).drop i)) /\ zs = mkSt [(17, .one (.dat (.int .i64 i))), (16, .one (.dat (.int .i64 (w)))), (7, .one (.dat (.int .i64 m))), (15, .one (.dat (.sl 1 (((b.drop n).take w).map encI)))), (0, .one (.dat (.sl 1 (b.map encI))))] []) (w) _
  (Ent.wk []) ⟨0, 0, by omega, by omega, by simp, rfl⟩ ?_
 rintro zn zs ⟨i, m, hi, rfl, hinv, rfl⟩ K hK
 rcases Nat.lt_or_ge i (w) with hlt | hge
 ·have hdi : decide ((i : Int) < ((w : Nat) : Int)) = true := decide_eq_true (by omega)
  have hw := ah hlt (show w <= maxLen from Nat.le_trans hw7 (by decide))
  obtain ⟨hm0, hm1, hinv⟩ := hinv
  have hi6 := (mi (i := i) (by omega)).2 (by omega)
  have hll : i < ((b.drop n).take w).length := by omega
  have hnl : n + i < b.length := by omega
  have hel : ((b.drop n).take w)[i] = b[n + i] := by simp
  rw [List.drop_eq_getElem_cons hll, loadGo, hel] at hinv
  have hxb := hb _ (List.getElem_mem hnl)
  have hgd : (((b.drop n).take w).map encI).getD i [] = [.int .i64 b[n + i]] := by rw [getD_map hll, encI, hel]
  have hw1 : IntKind.i64.wrap (256 * m) = 256 * m := by rw [wrap_id] <;> omega
  have hw2 : IntKind.i64.wrap (256 * m + b[n + i]) = 256 * m + b[n + i] := by rw [wrap_id] <;> omega
  simp (maxSteps := 2000000) only [go_sem, seval, hdi, hw, hw1, hw2, hgd]
  refine scs ?_
  (apply hK
   exact ⟨w - (i + 1), _, by omega, Ent.wk [], i + 1, (256 * m + b[n + i]), by omega, rfl, ⟨by omega, by rw [Int.pow_succ]; omega, hinv⟩, rfl⟩)
 ·have hge' : w = i := by omega
  subst hge'
  have hdi : decide (((w : Nat) : Int) < ((w : Nat) : Int)) = false := by simp
  obtain ⟨_, _, hinv⟩ := hinv
  have hdl : ((b.drop n).take w).drop w = [] := List.drop_eq_nil_of_le (by omega)
  rw [hdl, loadGo] at hinv
  refine sv3 ?_
  apply hK
  refine evl ?_
  refine Fin.nt results161 [] ?_ ?_ ?_ <;> try trivial
  (refine rsl ?_; try exact .intro)
  exact hinv.symm
theorem c261 (b : List Int) (hl : b.length <= 16777216) (a : Int) (n : Nat) (ha : a = n) (wi : Int) (w : Nat) (hwi : wi = w) (hw7 : w <= 7) (haw : n + w <= b.length) (hb : isByteL b) : Ctr prog 261 [.one (.dat (.sl 1 (b.map encI))), .one (.dat (.int .i64 a)), .one (.dat (.int .i64 wi))] [] (.one (.dat (.int .i64 (loadN b n w)))) [] := by
 subst ha hwi
 have hLl : ((b.drop n).take w).length = w := by simp; omega
 have hLb : ∀ x ∈ (b.drop n).take w, 0 <= x /\ x <= 255 := fun x hx => hb x (List.mem_of_mem_drop (List.mem_of_mem_take hx))
 unfold loadN
 refine Ctr.bd aa func261 rfl ?_
 refine evl ?_
 refine ab (fun zn zs => ∃ (i : Nat) (m : Int), i <= w /\ zn = w - i /\ (0 <= m /\ m + 1 <= 256 ^ i /\ loadGo 0 ((b.drop n).take w) = loadGo m (((b.drop n).take w).drop i)) /\ zs = mkSt [(8, .one (.dat (.int .i64 i))), (7, .one (.dat (.int .i64 m))), (1, .one (.dat (.int .i64 (n : Nat)))), (2, .one (.dat (.int .i64 (w : Nat)))), (0, .one (.dat (.sl 1 (b.map encI))))] []) (w) _
  (Ent.wk []) ⟨0, 0, by omega, by omega, by simp, rfl⟩ ?_
 rintro zn zs ⟨i, m, hi, rfl, hinv, rfl⟩ K hK
 rcases Nat.lt_or_ge i (w) with hlt | hge
 ·have hdi : decide ((i : Int) < ((w : Nat) : Int)) = true := decide_eq_true (by omega)
  have hw := ah hlt (show w <= maxLen from Nat.le_trans hw7 (by decide))
  obtain ⟨hm0, hm1, hinv⟩ := hinv
  have hi6 := (mi (i := i) (by omega)).2 (by omega)
  have hll : i < ((b.drop n).take w).length := by omega
  have hnl : n + i < b.length := by omega
  have hel : ((b.drop n).take w)[i] = b[n + i] := by simp
  rw [List.drop_eq_getElem_cons hll, loadGo, hel] at hinv
  have hxb := hb _ (List.getElem_mem hnl)
  have hwn : IntKind.i64.wrap ((n : Int) + i) = ((n + i : Nat) : Int) := by rw [wrap_id] <;> omega
  have hw1 : IntKind.i64.wrap (m * 256) = 256 * m := by rw [wrap_id] <;> omega
  have hw2 : IntKind.i64.wrap (256 * m + b[n + i]) = 256 * m + b[n + i] := by rw [wrap_id] <;> omega
  simp (maxSteps := 2000000) only [go_sem, seval, hdi, hw, hwn, hw1, hw2, getD_map hnl, encI]
  refine scs ?_
  (apply hK
   exact ⟨w - (i + 1), _, by omega, Ent.wk [], i + 1, (256 * m + b[n + i]), by omega, rfl, ⟨by omega, by rw [Int.pow_succ]; omega, hinv⟩, rfl⟩)
 ·have hge' : w = i := by omega
  subst hge'
  have hdi : decide (((w : Nat) : Int) < ((w : Nat) : Int)) = false := by simp
  obtain ⟨_, _, hinv⟩ := hinv
  have hdl : ((b.drop n).take w).drop w = [] := List.drop_eq_nil_of_le (by omega)
  rw [hdl, loadGo] at hinv
  refine sv3 ?_
  apply hK
  refine evl ?_
  refine Fin.nt results261 [] ?_ ?_ ?_ <;> try trivial
  (refine rsl ?_; try exact .intro)
  exact hinv.symm
def clsAt (h : Heap) (p : Nat) : Int := h.Class.getD p 0
def shapedM (h : Heap) : Bool := ((h.Bytes.length : Int) == 384) && bytesOk h.Bytes && ((h.Class.length : Int) == 6) && h.Class.all (fun c => within c (-1) 2)
theorem aF {h : Heap} (hs : shapedM h = true) : h.Bytes.length = 384 /\ isByteL h.Bytes /\ h.Class.length = 6 /\ ∀ c ∈ h.Class, -1 <= c /\ c <= 2 := by
 simp only [shapedM, Bool.and_eq_true, beq_iff_eq, List.all_eq_true] at hs
 obtain ⟨⟨⟨h1, h2⟩, h3⟩, h4⟩ := hs
 refine ⟨by omega, (j1 h2).2, by omega, fun c hc => ?_⟩
 have := h4 c hc
 simpa [within] using this
def pg (h : Heap) (p : Nat) : List Int := (h.Bytes.drop (p * 64)).take 64
def pageGens (h : Heap) (p : Nat) (c : Int) : Bool := (List.range (perPage c).toNat).all fun i => within (loadN h.Bytes (p * 64 + 8 + i * (strideOf c).toNat) 4) 1 7
def headOkM (h : Heap) (p : Nat) : Bool := (h.Bytes.getD (p * 64) 0 == 171) && (h.Bytes.getD (p * 64 + 1) 0 == clsAt h p) && (h.Bytes.getD (p * 64 + 2) 0 == perPage (clsAt h p)) && ((h.Bytes.drop (p * 64 + 3)).take 5).all (fun x => x == 0)
def pageOkM (h : Heap) (p : Nat) : Bool :=
 bif decide (clsAt h p < 0) then (pg h p).all (fun x => x == 0)
 else headOkM h p && pageGens h p (clsAt h p)
def heapOk (h : Heap) : Bool := shapedM h && (List.range 6).all (pageOkM h)
theorem c362 (x : Int) : Ctr prog 362 [.one (.dat (.int .i64 x))] [] (.one (.dat (.bool (!within x (-1) 2)))) [] := by
 refine Ctr.bd aa func362 rfl ?_
 refine evw ?_
 refine ck e151 (c151 x (-1) 2) rfl ?_
 refine evw ?_
 refine Fin.nt results362 [] ?_ ?_ ?_ <;> try trivial
theorem c344 (h : Heap) (hz : sizHeap h <= 1048576) : Ctr prog 344 [.agg ((encHeap h).map .dat)] [] (.one (.dat (.bool (shapedM h)))) [] := by
 obtain ⟨hl1, hl2, _⟩ := Heap.lok_of (x := h) (by omega)
 simp only [encHeap, List.map_cons, List.map_nil]
 refine Ctr.bd aa func344 rfl ?_
 refine sv18 ?_
 refine scs ?_
 refine ck e361 (c361 h.Bytes hl1) rfl ?_
 refine sv18 ?_
 refine scs ?_
 refine ck e139 (dk h.Class hl2 e362 (fun x _ => c362 x)) rfl ?_
 refine sv18 ?_
 refine scs ?_
 refine Fin.nt results344 [] ?_ ?_ ?_ <;> try trivial
 (refine rsl ?_; try exact .intro)
 simp only [shapedM, <- aG]
 cases ((h.Bytes.length : Int) == 384) <;> cases bytesOk h.Bytes <;> cases ((h.Class.length : Int) == 6) <;> rfl
theorem c336 (h : Heap) (hz : sizHeap h <= 1048576) : Ctr prog 336 [.agg ((encHeap h).map .dat)] [] (.one (.dat (.bool (shapedM h)))) [] := by
 obtain ⟨hl1, hl2, _⟩ := Heap.lok_of (x := h) (by omega)
 simp only [encHeap, List.map_cons, List.map_nil]
 refine Ctr.bd aa func336 rfl ?_
 refine sv18 ?_
 refine scs ?_
 refine ck e359 (c359 h.Bytes hl1) rfl ?_
 refine sv18 ?_
 refine scs ?_
 constructor <;> intro hc
 ·refine Fin.nt results336 [] ?_ ?_ ?_ <;> try trivial
  (refine rsl ?_; try exact .intro)
  simp only [shapedM]
  revert hc
  simp only [bne]
  cases ((h.Bytes.length : Int) == 384) <;> cases bytesOk h.Bytes <;> cases ((h.Class.length : Int) == 6) <;> simp
 obtain ⟨hc1, hc2, hc3⟩ : ((h.Bytes.length : Int) == 384) = true /\ bytesOk h.Bytes = true /\ ((h.Class.length : Int) == 6) = true := by
  revert hc
  simp only [bne]
  cases ((h.Bytes.length : Int) == 384) <;> cases bytesOk h.Bytes <;> cases ((h.Class.length : Int) == 6) <;> simp
 have hsm : shapedM h = h.Class.all (fun c => within c (-1) 2) := by simp only [shapedM, hc1, hc2, hc3, Bool.true_and]
 rw [hsm]
 have h6 : h.Class.length = 6 := by simp only [beq_iff_eq] at hc3; omega
 refine ab (fun zn zs => ∃ i : Nat, i <= 6 /\ zn = 6 - i /\ ((h.Class.all fun c => within c (-1) 2) = (h.Class.drop i).all fun c => within c (-1) 2) /\ zs = mkSt [(3, .one (.dat (.int .i64 i))), (1, .one (.ptr (.own 0 0 0)))] [.box [.dat (.sl 1 (h.Bytes.map encI)), .dat (.sl 1 (h.Class.map encI))]]) (6) _
  (Ent.wk [0]) ⟨0, by omega, by omega, by simp, rfl⟩ ?_
 rintro zn zs ⟨i, hi, rfl, hinv, rfl⟩ K hK
 rcases Nat.lt_or_ge i (6) with hlt | hge
 ·have hdi : decide ((i : Int) < ((6 : Nat) : Int)) = true := decide_eq_true (by omega)
  have hw := ah hlt (show 6 <= maxLen by decide)
  have hd6 : decide ((i : Int) < 6) = true := decide_eq_true (by omega)
  have hic : i < h.Class.length := by omega
  rw [List.drop_eq_getElem_cons hic, List.all_cons] at hinv
  refine sv21 ?_
  refine scs ?_
  refine ck e126 (c126 h.Class[i] (-1) 2) rfl ?_
  refine sv21 ?_
  constructor <;> intro hq
  ·have h' : within h.Class[i] (-1) 2 = false := by simpa using hq
   rw [h', Bool.false_and] at hinv
   apply hK
   refine sv21 ?_
   refine Fin.nt results336 [] ?_ ?_ ?_ <;> try trivial
   (refine rsl ?_; try exact .intro)
   exact hinv.symm
  ·have h' : within h.Class[i] (-1) 2 = true := by simpa using hq
   rw [h', Bool.true_and] at hinv
   (apply hK
    exact ⟨6 - (i + 1), _, by omega, Ent.wk [0], i + 1, by omega, rfl, hinv, rfl⟩)
 ·have hge' : 6 = i := by omega
  subst hge'
  have hdi : decide (((6 : Nat) : Int) < ((6 : Nat) : Int)) = false := by simp
  have hd6 : decide (((6 : Nat) : Int) < 6) = false := rfl
  rw [<- h6, List.drop_length, List.all_nil] at hinv
  refine sv22 ?_
  apply hK
  refine evl ?_
  refine Fin.nt results336 [] ?_ ?_ ?_ <;> try trivial
  (refine rsl ?_; try exact .intro)
  exact hinv.symm
theorem c369 (x : Int) : Ctr prog 369 [.one (.dat (.int .i64 x))] [] (.one (.dat (.bool (x != 0)))) [] := by
 refine Ctr.bd aa func369 rfl ?_
 refine evl ?_
 refine Fin.nt results369 [] ?_ ?_ ?_ <;> try trivial
theorem c363 (l : List Int) (hl : l.length <= maxLen) : Ctr prog 363 [.one (.dat (.sl 1 (l.map encI)))] [] (.one (.dat (.bool (l.all fun x => x == 0)))) [] := by
 refine Ctr.bd aa func363 rfl ?_
 refine evl ?_
 refine ck e139 (dk l hl e369 (fun x _ => c369 x)) rfl ?_
 refine evl ?_
 refine Fin.nt results363 [] ?_ ?_ ?_ <;> try trivial
 (refine rsl ?_; try exact .intro)
 rw [<- aG]; rfl
def slotsOf (l : List SList) : List Int := (l.map (·.Slots)).flatten
def goodSlots (l : List Int) : Bool := l.all (fun x => within x 0 23) && decide l.Nodup
def listsOk (l : Lists) : Bool := decide ((l.Global.length : Int) = 3) && decide ((l.Own.length : Int) = 9) && l.Own.all (fun s => decide ((s.Slots.length : Int) <= 2)) && goodSlots (slotsOf l.Global ++ slotsOf l.Own)
def onListM (l : Lists) (x : Int) : Bool := (slotsOf l.Global ++ slotsOf l.Own).any fun y => y == x
theorem slotsOf_drop {l : List SList} {i : Nat} (h : i < l.length) : slotsOf (l.drop i) = l[i].Slots ++ slotsOf (l.drop (i + 1)) := by
 unfold slotsOf
 rw [List.drop_eq_getElem_cons h, List.map_cons, List.flatten_cons]
theorem bu (l : List SList) : (slotsOf l).length = (l.map sizSList).sum := by
 induction l with
 | nil => rfl
 | cons x l ih => simp only [slotsOf, List.map_cons, List.flatten_cons, List.length_append, List.sum_cons] at ih ⊢; rw [ih]; rfl
theorem c338 (l : Lists) (hz : sizLists l <= 1048576) : Ctr prog 338 [.agg ((encLists l).map .dat)] [] (.one (.own 0)) [.vec 1 true ((slotsOf l.Global ++ slotsOf l.Own).map encI)] := by
 have hmx : maxLen = 9223372036854775807 := rfl
 unfold sizLists sizSListS at hz
 have hg := bu l.Global
 have ho := bu l.Own
 simp only [encLists, List.map_cons, List.map_nil]
 refine Ctr.bd aa func338 rfl ?_
 refine evl ?_
 refine scs ?_
 refine ab (fun zn zs => ∃ (i : Nat) (o : List Int), i <= l.Global.length /\ zn = l.Global.length - i /\ (slotsOf l.Global = o ++ slotsOf (l.Global.drop i)) /\ zs = mkSt [(4, .one (.dat (.int .i64 i))), (1, .one (.ptr (.own 0 0 0))), (3, .one (.own 1))] [.box [.dat (.sl 1 (l.Global.map encSList)), .dat (.sl 1 (l.Own.map encSList))], .vec 1 true (o.map encI)]) (l.Global.length) _
  (Ent.wk [0, 1]) ⟨0, [], by omega, by omega, rfl, rfl⟩ ?_
 rintro zn zs ⟨i, o, hi, rfl, hinv, rfl⟩ K hK
 rcases Nat.lt_or_ge i (l.Global.length) with hlt | hge
 ·have hdi : decide ((i : Int) < ((l.Global.length : Nat) : Int)) = true := decide_eq_true (by omega)
  have hw := ah hlt (show l.Global.length <= maxLen by omega)
  rw [slotsOf_drop hlt] at hinv
  have hlen : o.length + l.Global[i].Slots.length <= 1048576 := by
   have := congrArg List.length hinv
   simp only [List.length_append] at this
   omega
  refine sv23 ?_
  refine scs ?_
  (apply hK
   exact ⟨l.Global.length - (i + 1), _, by omega, Ent.wk [0, 2], i + 1, (o ++ l.Global[i].Slots), by omega, rfl, by rw [List.append_assoc]; exact hinv, rfl⟩)
 ·have hge' : l.Global.length = i := by omega
  subst hge'
  have hdi : decide (((l.Global.length : Nat) : Int) < ((l.Global.length : Nat) : Int)) = false := by simp
  rw [List.drop_length] at hinv
  have hoe : o = slotsOf l.Global := by rw [hinv]; simp [slotsOf]
  subst hoe
  clear hinv
  refine sv3 ?_
  apply hK
  refine evl ?_
  refine ab (fun zn zs => ∃ (i : Nat) (o : List Int), i <= l.Own.length /\ zn = l.Own.length - i /\ (slotsOf l.Own = o ++ slotsOf (l.Own.drop i)) /\ zs = mkSt [(5, .one (.dat (.int .i64 i))), (1, .one (.ptr (.own 0 0 0))), (3, .one (.own 1))] [.box [.dat (.sl 1 (l.Global.map encSList)), .dat (.sl 1 (l.Own.map encSList))], .vec 1 true ((slotsOf l.Global ++ o).map encI)]) (l.Own.length) _
   (Ent.wk [0, 1]) ⟨0, [], by omega, by omega, rfl, rfl⟩ ?_
  rintro zn zs ⟨i, o, hi, rfl, hinv, rfl⟩ K hK
  rcases Nat.lt_or_ge i (l.Own.length) with hlt | hge
  ·have hdi : decide ((i : Int) < ((l.Own.length : Nat) : Int)) = true := decide_eq_true (by omega)
   have hw := ah hlt (show l.Own.length <= maxLen by omega)
   rw [slotsOf_drop hlt] at hinv
   have hlen : o.length + l.Own[i].Slots.length <= (slotsOf l.Own).length := by
    have := congrArg List.length hinv
    simp only [List.length_append] at this
    omega
   simp (maxSteps := 2000000) only [go_sem, seval, hdi, hw, getD_map hlt, encSList, List.length_append]
   refine scs ?_
   (apply hK
    exact ⟨l.Own.length - (i + 1), _, by omega, Ent.wk [0, 2], i + 1, (o ++ l.Own[i].Slots), by omega, rfl, by rw [List.append_assoc]; exact hinv, rfl⟩)
  ·have hge' : l.Own.length = i := by omega
   subst hge'
   have hdi : decide (((l.Own.length : Nat) : Int) < ((l.Own.length : Nat) : Int)) = false := by simp
   rw [List.drop_length] at hinv
   have hoe : o = slotsOf l.Own := by rw [hinv]; simp [slotsOf]
   subst hoe
   refine sv3 ?_
   apply hK
   refine evl ?_
   refine Fin.nt results338 [1] ?_ ?_ ?_ <;> try trivial
   all_goals exact entd
theorem c288 (w c : Int) (hw : 0 <= w /\ w <= 2) (hc : 0 <= c /\ c <= 2) : Ctr prog 288 [.one (.dat (.int .i64 w)), .one (.dat (.int .i64 c))] [] (.one (.dat (.int .i64 (w * 3 + c)))) [] := by
 have w1 : within w 0 2 = true := by simp [within]; omega
 have w2 : within c 0 2 = true := by simp [within]; omega
 refine Ctr.bd aa func288 rfl ?_
 refine evw ?_
 (repeat' first
      | ((with_reducible show Abs.Fin _ _ _ _ _ _); refine Fin.nt results288 [] ?_ ?_ ?_ <;> try trivial)
      | ((first | refine af e126 (c126 ..) rfl rfl ?_ | refine ag e126 (c126 ..) rfl rfl ?_ | refine ck e126 (c126 ..) rfl ?_); simp (maxSteps := 2000000) (disch := omega) only [go_sem, ↓reduceIte, reduceCtorEq, Nat.reduceAdd, Nat.reduceMul, Nat.reduceSub, Nat.reduceLT, Nat.reduceLeDiff, Nat.reduceEqDiff, Int.reduceToNat, Int.reduceLT, Int.reduceLE, Int.reduceNeg, Int.reduceEq, Int.reduceNe, Int.reduceBEq, Int.reduceBNe, Int.reduceAdd, Int.reduceMul, Int.reduceSub, Int.reduceTDiv, Int.reduceTMod, Nat.reduceBEq, wrap_id, Int.tmod_eq_emod_of_nonneg, Int.tdiv_eq_ediv_of_nonneg, not_false_eq_true, ne_eq, List.length_map, w1, w2])
      | with_reducible intro h
      | ((with_reducible show _ /\ _); apply And.intro))
 all_goals try ((refine rsl ?_; try exact .intro))
 all_goals first | rfl | (simp_all; done) | omega
theorem pg_len {h : Heap} {p : Nat} (hl : h.Bytes.length = 384) (hp : p < 6) : (pg h p).length = 64 := by simp [pg, hl]; omega
theorem gp {h : Heap} {p k : Nat} (hl : h.Bytes.length = 384) (hp : p < 6) (hk : k < 64) : ((pg h p).map encI).getD k [] = [.int .i64 (h.Bytes.getD (p * 64 + k) 0)] := by
 have h1 : k < (pg h p).length := by rw [pg_len hl hp]; exact hk
 have h2 : p * 64 + k < h.Bytes.length := by omega
 rw [getD_map h1, encI]
 simp [pg, List.getD_eq_getElem?_getD, h2]
theorem oR {h : Heap} {p : Nat} : (((pg h p).map encI).drop 3).take 5 = ((h.Bytes.drop (p * 64 + 3)).take 5).map encI := by
 simp only [pg, <- List.map_drop, <- List.map_take]
 congr 1
 rw [List.drop_take, List.drop_drop, List.take_take]
 rfl
theorem om {h : Heap} {p a w : Nat} (ha : a + w <= 64) : loadN (pg h p) a w = loadN h.Bytes (p * 64 + a) w := by
 unfold loadN pg
 congr 1
 rw [List.drop_take, List.drop_drop, List.take_take]
 congr 1
 omega
theorem oq {h : Heap} {p : Nat} (hb : isByteL h.Bytes) : isByteL (pg h p) := fun x hx => hb x (List.mem_of_mem_drop (List.mem_of_mem_take hx))
theorem gE {h : Heap} {p : Nat} (hs : shapedM h = true) (hp : p < 6) : -1 <= clsAt h p /\ clsAt h p <= 2 := by
 obtain ⟨_, _, h3, h4⟩ := aF hs
 have : p < h.Class.length := by omega
 have e : clsAt h p = h.Class[p] := by simp [clsAt, List.getD_eq_getElem?_getD, this]
 rw [e]
 exact h4 _ (List.getElem_mem this)
theorem cC {h : Heap} {p : Nat} (hl : h.Class.length = 6) (hp : p < 6) : (h.Class.map encI).getD p [] = [.int .i64 (clsAt h p)] := by
 have : p < h.Class.length := by omega
 rw [getD_map this, encI]
 simp [clsAt, List.getD_eq_getElem?_getD, this]
theorem hU (c : Int) : ∃ k t : Nat, perPage c = k /\ strideOf c = t /\ k <= 4 /\ t <= 44 /\ ∀ i, i < k -> i * t + 12 <= 64 := by
 rcases aO c with rfl | rfl | rfl | ⟨_, _, e1, e2⟩
 ·exact ⟨4, 12, p_0, t_0, by omega, by omega, fun i _ => by omega⟩
 ·exact ⟨2, 20, p_1, t_1, by omega, by omega, fun i _ => by omega⟩
 ·exact ⟨1, 44, p_2, t_2, by omega, by omega, fun i _ => by omega⟩
 ·exact ⟨0, 0, e2, e1, by omega, by omega, fun i _ => by omega⟩
theorem dN {h : Heap} {p : Nat} {c : Int} {k t : Nat} (hk : perPage c = k) (ht : strideOf c = t) (ha : ∀ j, j < k -> within (loadN h.Bytes (p * 64 + 8 + j * t) 4) 1 7 = true) : pageGens h p c = true := by
 unfold pageGens
 rw [hk, ht]
 simp only [Int.toNat_natCast, List.all_eq_true, List.mem_range]
 exact ha
theorem dl {h : Heap} {p : Nat} {c : Int} {k t i : Nat} (hk : perPage c = k) (ht : strideOf c = t) (hi : i < k) (ha : within (loadN h.Bytes (p * 64 + 8 + i * t) 4) 1 7 = false) : pageGens h p c = false := by
 unfold pageGens
 rw [hk, ht]
 simp only [Int.toNat_natCast, List.all_eq_false, List.mem_range]
 exact ⟨i, hi, by rw [ha]; decide⟩
theorem c345 (h : Heap) (hz : sizHeap h <= 1048576) (hs : shapedM h = true) (pi : Int) (p : Nat) (hpi : pi = p) (hp : p < 6) : Ctr prog 345 [.agg ((encHeap h).map .dat), .one (.dat (.int .i64 pi))] [] (.one (.dat (.bool (pageOkM h p)))) [] := by
 subst hpi
 obtain ⟨hl, hb, hlc, _⟩ := aF hs
 have hc := gE hs hp
 have hw1 : IntKind.i64.wrap ((p : Int) * 64) = ((p * 64 : Nat) : Int) := by rw [wrap_id] <;> omega
 have hw2 : IntKind.i64.wrap ((p : Int) + 1) = ((p + 1 : Nat) : Int) := by rw [wrap_id] <;> omega
 have hw3 : IntKind.i64.wrap (((p + 1 : Nat) : Int) * 64) = ((p * 64 + 64 : Nat) : Int) := by rw [wrap_id] <;> omega
 have hrows : ((h.Bytes.map encI).drop (p * 64)).take 64 = (pg h p).map encI := by rw [pg, List.map_take, List.map_drop]
 have hpl := pg_len hl hp
 have hpm : (pg h p).length <= maxLen := by rw [hpl]; decide
 have hpm5 : ((h.Bytes.drop (p * 64 + 3)).take 5).length <= maxLen := Nat.le_trans (List.length_take_le _ _) (by decide)
 simp only [encHeap, List.map_cons, List.map_nil]
 refine Ctr.bd aa func345 rfl ?_
 simp (maxSteps := 2000000) only [go_sem, seval, hw1, hw2, hw3, cC hlc hp, hlc, hl, Nat.add_sub_cancel_left, hrows]
 refine scs ?_
 constructor <;> intro hq
 ·refine ck e363 (c363 (pg h p) hpm) rfl ?_
  refine evl ?_
  refine Fin.nt results345 [] ?_ ?_ ?_ <;> try trivial
  (refine rsl ?_; try exact .intro)
  simp only [pageOkM, hq, cond_true]
 ·simp (maxSteps := 2000000) only [go_sem, seval, gp hl hp (show 0 < 64 by decide), gp hl hp (show 1 < 64 by decide), gp hl hp (show 2 < 64 by decide)]
  refine scs ?_
  refine ck e354 (c354 (clsAt h p)) rfl ?_
  simp (maxSteps := 2000000) only [go_sem, seval, gp hl hp (show 2 < 64 by decide), oR]
  refine scs ?_
  refine ck e363 (c363 ((h.Bytes.drop (p * 64 + 3)).take 5) hpm5) rfl ?_
  refine evl ?_
  refine scs ?_
  constructor <;> intro hr
  ·have hh : headOkM h p = false := by
    revert hr
    simp only [headOkM, bne]
    cases (h.Bytes.getD (p * 64) 0 == 171) <;> cases (h.Bytes.getD (p * 64 + 1) 0 == clsAt h p) <;> cases (h.Bytes.getD (p * 64 + 2) 0 == perPage (clsAt h p)) <;> cases (((h.Bytes.drop (p * 64 + 3)).take 5).all (fun x => x == 0)) <;> simp
   refine Fin.nt results345 [] ?_ ?_ ?_ <;> try trivial
   (refine rsl ?_; try exact .intro)
   simp only [pageOkM, hq, hh, cond_false, Bool.false_and]
  have hh : headOkM h p = true := by
   revert hr
   simp only [headOkM, bne]
   cases (h.Bytes.getD (p * 64) 0 == 171) <;> cases (h.Bytes.getD (p * 64 + 1) 0 == clsAt h p) <;> cases (h.Bytes.getD (p * 64 + 2) 0 == perPage (clsAt h p)) <;> cases (((h.Bytes.drop (p * 64 + 3)).take 5).all (fun x => x == 0)) <;> simp
  have hm : pageOkM h p = pageGens h p (clsAt h p) := by simp only [pageOkM, hq, hh, cond_false, Bool.true_and]
  rw [hm]
  obtain ⟨k, t, hk, ht, hk4, ht4, hkt⟩ := hU (clsAt h p)
  refine ck e354 (c354 (clsAt h p)) rfl ?_
  simp (maxSteps := 2000000) only [go_sem, seval, hk]
  refine ab (fun zn zs => ∃ i : Nat, i <= k /\ zn = k - i /\ (∀ j, j < i -> within (loadN h.Bytes (p * 64 + 8 + j * t) 4) 1 7 = true) /\ zs = mkSt [(52, .one (.dat (.int .i64 i))), (51, .one (.dat (.int .i64 (k)))), (5, .one (.dat (.int .i64 (clsAt h p)))), (6, .one (.dat (.sl 1 ((pg h p).map encI))))] []) (k) _
   (Ent.wk []) ⟨0, by omega, by omega, fun j hj => absurd hj (Nat.not_lt_zero j), rfl⟩ ?_
  rintro zn zs ⟨i, hi, rfl, hinv, rfl⟩ K hK
  rcases Nat.lt_or_ge i (k) with hlt | hge
  ·have hdi : decide ((i : Int) < ((k : Nat) : Int)) = true := decide_eq_true (by omega)
   have hw := ah hlt (show k <= maxLen from Nat.le_trans hk4 (by decide))
   have hib := hkt i hlt
   have hit : IntKind.i64.wrap ((i : Int) * (t : Int)) = ((i * t : Nat) : Int) := by rw [<- Int.natCast_mul, wrap_id] <;> omega
   have hi8 : IntKind.i64.wrap (8 + ((i * t : Nat) : Int)) = ((8 + i * t : Nat) : Int) := by rw [wrap_id] <;> omega
   refine sv24 ?_
   refine scs ?_
   refine ck e355 (c355 (clsAt h p)) rfl ?_
   refine sv24 ?_
   refine scs ?_
   refine ck e161 (c161 (pg h p) (by omega) _ (8 + i * t) rfl 4 4 rfl (by decide) (by omega) (oq hb)) rfl ?_
   refine sv24 ?_
   refine scs ?_
   refine ck e151 (c151 (loadN (pg h p) (8 + i * t) 4) 1 7) rfl ?_
   rw [om (by omega), <- Nat.add_assoc]
   refine sv24 ?_
   constructor <;> intro hq
   ·have h' : within (loadN h.Bytes (p * 64 + 8 + i * t) 4) 1 7 = false := by simpa using hq
    apply hK
    refine sv24 ?_
    refine Fin.nt results345 [] ?_ ?_ ?_ <;> try trivial
    (refine rsl ?_; try exact .intro)
    exact (dl hk ht hlt h').symm
   ·have h' : within (loadN h.Bytes (p * 64 + 8 + i * t) 4) 1 7 = true := by simpa using hq
    (apply hK
     exact ⟨k - (i + 1), _, by omega, Ent.wk [], i + 1, by omega, rfl, (fun j hj => by rcases Nat.lt_succ_iff_lt_or_eq.1 hj with hj | rfl; exact hinv j hj; exact h'), rfl⟩)
  ·have hge' : k = i := by omega
   subst hge'
   have hdi : decide (((k : Nat) : Int) < ((k : Nat) : Int)) = false := by simp
   refine sv3 ?_
   apply hK
   refine evl ?_
   refine Fin.nt results345 [] ?_ ?_ ?_ <;> try trivial
   (refine rsl ?_; try exact .intro)
   exact (dN hk ht hinv).symm
theorem cK {b : List Int} {k : Nat} (hk : k < b.length) : (b.map encI).getD k [] = [.int .i64 (b.getD k 0)] := by
 rw [getD_map hk, encI]
 simp [List.getD_eq_getElem?_getD, hk]
theorem km {b : List Int} {a n j : Nat} (h : a + n <= b.length) (hj : j < n) : ((b.drop a).take n)[j]? = some (b.getD (a + j) 0) := by
 have : a + j < b.length := by omega
 simp [List.getElem?_take, hj, List.getD_eq_getElem?_getD, this]
theorem kn {b : List Int} {a n : Nat} (h : a + n <= b.length) (ha : ∀ j, j < n -> b.getD (a + j) 0 = 0) : ((b.drop a).take n).all (fun x => x == 0) = true := by
 rw [List.all_eq_true]
 intro x hx
 obtain ⟨j, hj, rfl⟩ := List.mem_iff_getElem.1 hx
 have hn : j < n := by simp at hj; omega
 have := km h hn
 rw [List.getElem?_eq_getElem hj] at this
 rw [Option.some.inj this, ha j hn]; rfl
theorem ko {b : List Int} {a n j : Nat} (h : a + n <= b.length) (hj : j < n) (ha : b.getD (a + j) 0 ≠ 0) : ((b.drop a).take n).all (fun x => x == 0) = false := by
 rw [List.all_eq_false]
 exact ⟨b.getD (a + j) 0, List.mem_of_getElem? (km h hj), by simpa using ha⟩
theorem ni {p i : Nat} {c : Int} {k t : Nat} (hp : p < 6) (hk : perPage c = k) (ht : strideOf c = t) (hk4 : k <= 4) (hi : i < k) : genAt ((p : Int) * 4 + i) c = ((p * 64 + 8 + i * t : Nat) : Int) := by
 have e1 : ((p : Int) * 4 + i) % 4 = i := by omega
 have e2 : ((p : Int) * 4 + i) / 4 = p := by omega
 rw [genAt_pos (by omega) (by omega) (by rw [e1, hk]; omega), e1, e2, ht]
 simp only [Int.natCast_add, Int.natCast_mul]
 rfl
theorem c337 (h : Heap) (hz : sizHeap h <= 1048576) (hs : shapedM h = true) (pi : Int) (p : Nat) (hpi : pi = p) (hp : p < 6) : Ctr prog 337 [.agg ((encHeap h).map .dat), .one (.dat (.int .i64 pi))] [] (.one (.dat (.bool (pageOkM h p)))) [] := by
 subst hpi
 obtain ⟨hl, hb, hlc, _⟩ := aF hs
 have hc := gE hs hp
 have hw1 : IntKind.i64.wrap ((p : Int) * 64) = ((p * 64 : Nat) : Int) := by rw [wrap_id] <;> omega
 have hw64 : IntKind.i64.wrap (((p * 64 : Nat) : Int) + 64) = ((p * 64 + 64 : Nat) : Int) := by rw [wrap_id] <;> omega
 have hwa1 : IntKind.i64.wrap (((p * 64 : Nat) : Int) + 1) = ((p * 64 + 1 : Nat) : Int) := by rw [wrap_id] <;> omega
 have hwa2 : IntKind.i64.wrap (((p * 64 : Nat) : Int) + 2) = ((p * 64 + 2 : Nat) : Int) := by rw [wrap_id] <;> omega
 have hwa3 : IntKind.i64.wrap (((p * 64 : Nat) : Int) + 3) = ((p * 64 + 3 : Nat) : Int) := by rw [wrap_id] <;> omega
 have hwa8 : IntKind.i64.wrap (((p * 64 : Nat) : Int) + 8) = ((p * 64 + 8 : Nat) : Int) := by rw [wrap_id] <;> omega
 have hg0 := cK (b := h.Bytes) (k := p * 64) (by omega)
 have hg1 := cK (b := h.Bytes) (k := p * 64 + 1) (by omega)
 have hg2 := cK (b := h.Bytes) (k := p * 64 + 2) (by omega)
 simp only [encHeap, List.map_cons, List.map_nil]
 refine Ctr.bd aa func337 rfl ?_
 simp (maxSteps := 2000000) only [go_sem, seval, hw1, cC hlc hp, hlc, hl, hwa1, hwa2, hg0, hg1, hg2]
 refine scs ?_
 constructor <;> intro hq
 ·skip
  refine ab (fun zn zs => ∃ i : Nat, i <= 64 /\ zn = 64 - i /\ (∀ j, j < i -> h.Bytes.getD (p * 64 + j) 0 = 0) /\ zs = mkSt [(2, .one (.ptr (.own 0 0 0))), (5, .one (.dat (.int .i64 ((p * 64 : Nat) : Int)))), (6, .one (.dat (.int .i64 (clsAt h p)))), (7, .one (.dat (.int .i64 ((p * 64 + i : Nat) : Int))))] [.box [.dat (.sl 1 (h.Bytes.map encI)), .dat (.sl 1 (h.Class.map encI))]]) (64) _
   (Ent.wk [0]) ⟨0, by omega, by omega, fun j hj => absurd hj (Nat.not_lt_zero j), rfl⟩ ?_
  rintro zn zs ⟨i, hi, rfl, hinv, rfl⟩ K hK
  rcases Nat.lt_or_ge i (64) with hlt | hge
  ·have hdi : decide ((i : Int) < ((64 : Nat) : Int)) = true := decide_eq_true (by omega)
   have hw := ah hlt (show 64 <= maxLen by decide)
   have hdl : decide (((p * 64 + i : Nat) : Int) < ((p * 64 + 64 : Nat) : Int)) = true := decide_eq_true (by omega)
   have hwi : IntKind.i64.wrap (((p * 64 + i : Nat) : Int) + 1) = ((p * 64 + (i + 1) : Nat) : Int) := by rw [wrap_id] <;> omega
   have hgi := cK (b := h.Bytes) (k := p * 64 + i) (by omega)
   simp (maxSteps := 2000000) only [go_sem, seval, hdl, hw64, hwi, hgi, hl]
   refine scs ?_
   constructor <;> intro hr
   ·have h' : h.Bytes.getD (p * 64 + i) 0 ≠ 0 := by simpa using hr
    apply hK
    simp (maxSteps := 2000000) only [go_sem, seval, hdl, hw64, hwi, hgi, hl]
    refine Fin.nt results337 [] ?_ ?_ ?_ <;> try trivial
    (refine rsl ?_; try exact .intro)
    simp only [pageOkM, hq, cond_true]
    exact (ko (by omega) hlt h').symm
   ·have h' : h.Bytes.getD (p * 64 + i) 0 = 0 := by simpa using hr
    (apply hK
     exact ⟨64 - (i + 1), _, by omega, Ent.wk [0], i + 1, by omega, rfl, (fun j hj => by rcases Nat.lt_succ_iff_lt_or_eq.1 hj with hj | rfl; exact hinv j hj; exact h'), rfl⟩)
  ·have hge' : 64 = i := by omega
   subst hge'
   have hdi : decide (((64 : Nat) : Int) < ((64 : Nat) : Int)) = false := by simp
   have hdl : decide (((p * 64 + 64 : Nat) : Int) < ((p * 64 + 64 : Nat) : Int)) = false := decide_eq_false (by omega)
   simp (maxSteps := 2000000) only [go_sem, seval, hw64, hdl]
   apply hK
   refine evl ?_
   refine Fin.nt results337 [] ?_ ?_ ?_ <;> try trivial
   (refine rsl ?_; try exact .intro)
   simp only [pageOkM, hq, cond_true]
   exact (kn (by omega) hinv).symm
 refine scs ?_
 refine ck e323 (c323 (clsAt h p)) rfl ?_
 simp (maxSteps := 2000000) only [go_sem, seval, hwa3]
 refine scs ?_
 constructor <;> intro hr
 ·have hh : headOkM h p = false := by
   revert hr
   simp only [headOkM, bne]
   cases (h.Bytes.getD (p * 64) 0 == 171) <;> cases (h.Bytes.getD (p * 64 + 1) 0 == clsAt h p) <;> cases (h.Bytes.getD (p * 64 + 2) 0 == perPage (clsAt h p)) <;> cases (((h.Bytes.drop (p * 64 + 3)).take 5).all (fun x => x == 0)) <;> simp
  refine Fin.nt results337 [] ?_ ?_ ?_ <;> try trivial
  (refine rsl ?_; try exact .intro)
  simp only [pageOkM, hq, hh, cond_false, Bool.false_and]
 have hh : headOkM h p = ((h.Bytes.drop (p * 64 + 3)).take 5).all (fun x => x == 0) := by
  revert hr
  simp only [headOkM, bne]
  cases (h.Bytes.getD (p * 64) 0 == 171) <;> cases (h.Bytes.getD (p * 64 + 1) 0 == clsAt h p) <;> cases (h.Bytes.getD (p * 64 + 2) 0 == perPage (clsAt h p)) <;> cases (((h.Bytes.drop (p * 64 + 3)).take 5).all (fun x => x == 0)) <;> simp
 clear hr
 refine ab (fun zn zs => ∃ i : Nat, i <= 5 /\ zn = 5 - i /\ (∀ j, j < i -> h.Bytes.getD (p * 64 + 3 + j) 0 = 0) /\ zs = mkSt [(1, .one (.dat (.int .i64 (p : Int)))), (2, .one (.ptr (.own 0 0 0))), (5, .one (.dat (.int .i64 ((p * 64 : Nat) : Int)))), (6, .one (.dat (.int .i64 (clsAt h p)))), (8, .one (.dat (.int .i64 ((p * 64 + 3 + i : Nat) : Int))))] [.box [.dat (.sl 1 (h.Bytes.map encI)), .dat (.sl 1 (h.Class.map encI))]]) (5) _
  (Ent.wk [0]) ⟨0, by omega, by omega, fun j hj => absurd hj (Nat.not_lt_zero j), rfl⟩ ?_
 rintro zn zs ⟨i, hi, rfl, hinv, rfl⟩ K hK
 rcases Nat.lt_or_ge i (5) with hlt | hge
 ·have hdi : decide ((i : Int) < ((5 : Nat) : Int)) = true := decide_eq_true (by omega)
  have hw := ah hlt (show 5 <= maxLen by decide)
  have hdl : decide (((p * 64 + 3 + i : Nat) : Int) < ((p * 64 + 8 : Nat) : Int)) = true := decide_eq_true (by omega)
  have hwi : IntKind.i64.wrap (((p * 64 + 3 + i : Nat) : Int) + 1) = ((p * 64 + 3 + (i + 1) : Nat) : Int) := by rw [wrap_id] <;> omega
  have hgi := cK (b := h.Bytes) (k := p * 64 + 3 + i) (by omega)
  simp (maxSteps := 2000000) only [go_sem, seval, hdl, hwa8, hwi, hgi, hl]
  refine scs ?_
  constructor <;> intro hr
  ·have h' : h.Bytes.getD (p * 64 + 3 + i) 0 ≠ 0 := by simpa using hr
   apply hK
   simp (maxSteps := 2000000) only [go_sem, seval, hdl, hwa8, hwi, hgi, hl]
   refine Fin.nt results337 [] ?_ ?_ ?_ <;> try trivial
   (refine rsl ?_; try exact .intro)
   simp only [pageOkM, hq, hh, cond_false]
   rw [ko (by omega) hlt h', Bool.false_and]
  ·have h' : h.Bytes.getD (p * 64 + 3 + i) 0 = 0 := by simpa using hr
   (apply hK
    exact ⟨5 - (i + 1), _, by omega, Ent.wk [0], i + 1, by omega, rfl, (fun j hj => by rcases Nat.lt_succ_iff_lt_or_eq.1 hj with hj | rfl; exact hinv j hj; exact h'), rfl⟩)
 ·have hge' : 5 = i := by omega
  subst hge'
  have hdi : decide (((5 : Nat) : Int) < ((5 : Nat) : Int)) = false := by simp
  have hdl : decide (((p * 64 + 3 + 5 : Nat) : Int) < ((p * 64 + 8 : Nat) : Int)) = false := decide_eq_false (by omega)
  rw [kn (by omega) hinv] at hh
  simp (maxSteps := 2000000) only [go_sem, seval, hwa8, hdl]
  apply hK
  refine evl ?_
  have hm : pageOkM h p = pageGens h p (clsAt h p) := by simp only [pageOkM, hq, hh, cond_false, Bool.true_and]
  rw [hm]
  obtain ⟨k, t, hk, ht, hk4, ht4, hkt⟩ := hU (clsAt h p)
  clear hK hinv
  refine ab (fun zn zs => ∃ i : Nat, i <= k /\ zn = k - i /\ (∀ j, j < i -> within (loadN h.Bytes (p * 64 + 8 + j * t) 4) 1 7 = true) /\ zs = mkSt [(9, .one (.dat (.int .i64 i))), (1, .one (.dat (.int .i64 (p : Int)))), (2, .one (.ptr (.own 0 0 0))), (6, .one (.dat (.int .i64 (clsAt h p))))] [.box [.dat (.sl 1 (h.Bytes.map encI)), .dat (.sl 1 (h.Class.map encI))]]) (k) _
   (Ent.wk [0]) ⟨0, by omega, by omega, fun j hj => absurd hj (Nat.not_lt_zero j), rfl⟩ ?_
  rintro zn zs ⟨i, hi, rfl, hinv, rfl⟩ K hK
  rcases Nat.lt_or_ge i (k) with hlt | hge
  ·have hdi : decide ((i : Int) < ((k : Nat) : Int)) = true := decide_eq_true (by omega)
   have hw := ah hlt (show k <= maxLen from Nat.le_trans hk4 (by decide))
   have hib := hkt i hlt
   refine sv25 ?_
   refine ck e323 (c323 (clsAt h p)) rfl ?_
   refine sv25 ?_
   refine ck e360 (c360 (p : Int) (i : Int) (by omega) (by omega)) rfl ?_
   refine sv25 ?_
   refine ck e320 (c320 ((p : Int) * 4 + i) (clsAt h p)) rfl ?_
   refine sv25 ?_
   refine scs ?_
   refine ck e261 (c261 h.Bytes (by omega) _ (p * 64 + 8 + i * t) (ni hp hk ht hk4 hlt) 4 4 rfl (by decide) (by omega) hb) rfl ?_
   refine sv25 ?_
   refine scs ?_
   refine ck e126 (c126 (loadN h.Bytes (p * 64 + 8 + i * t) 4) 1 7) rfl ?_
   refine sv25 ?_
   constructor <;> intro hq
   ·have h' : within (loadN h.Bytes (p * 64 + 8 + i * t) 4) 1 7 = false := by simpa using hq
    apply hK
    refine sv25 ?_
    refine Fin.nt results337 [] ?_ ?_ ?_ <;> try trivial
    (refine rsl ?_; try exact .intro)
    exact (dl hk ht hlt h').symm
   ·have h' : within (loadN h.Bytes (p * 64 + 8 + i * t) 4) 1 7 = true := by simpa using hq
    (apply hK
     exact ⟨k - (i + 1), _, by omega, Ent.wk [0], i + 1, by omega, rfl, (fun j hj => by rcases Nat.lt_succ_iff_lt_or_eq.1 hj with hj | rfl; exact hinv j hj; exact h'), rfl⟩)
  ·have hge' : k = i := by omega
   subst hge'
   have hdi : decide (((k : Nat) : Int) < ((k : Nat) : Int)) = false := by simp
   simp (maxSteps := 2000000) only [go_sem, seval, hk]
   refine ck e323 (c323 (clsAt h p)) rfl ?_
   simp (maxSteps := 2000000) only [go_sem, seval, hk, hdi]
   apply hK
   refine evl ?_
   refine Fin.nt results337 [] ?_ ?_ ?_ <;> try trivial
   (refine rsl ?_; try exact .intro)
   exact (dN hk ht hinv).symm
theorem fg {h : Heap} (hs : shapedM h = true) (ha : ∀ j, j < 6 -> pageOkM h j = true) : heapOk h = true := by
 simp only [heapOk, hs, Bool.true_and, List.all_eq_true, List.mem_range]
 exact ha
theorem er {h : Heap} {i : Nat} (hi : i < 6) (ha : pageOkM h i = false) : heapOk h = false := by
 have : (List.range 6).all (pageOkM h) = false := by
  simp only [List.all_eq_false, List.mem_range]
  exact ⟨i, hi, by rw [ha]; decide⟩
 simp only [heapOk, this, Bool.and_false]
theorem ci {h : Heap} (ho : heapOk h = true) : shapedM h = true := by
 simp only [heapOk, Bool.and_eq_true] at ho; exact ho.1
def clsN (h : Heap) (s : Int) : Int := clsAt h (s / 4).toNat
def classInM (h : Heap) (s : Int) : Int := if 0 <= s /\ s <= 23 /\ s % 4 < perPage (clsN h s) then clsN h s else -1
theorem eu {h : Heap} {s : Int} (hn : ¬ (0 <= s /\ s <= 23)) : classInM h s = -1 := if_neg (fun h => hn ⟨h.1, h.2.1⟩)
theorem fh {h : Heap} {s : Int} (hn : ¬ s % 4 < perPage (clsN h s)) : classInM h s = -1 := if_neg (fun h => hn h.2.2)
theorem classInM_yes {h : Heap} {s : Int} (h0 : 0 <= s) (h1 : s <= 23) (hn : s % 4 < perPage (clsN h s)) : classInM h s = clsN h s := if_pos ⟨h0, h1, hn⟩
theorem j2 {c : Int} (h : c < 0) : perPage c = 0 := by
 rcases aO c with rfl | rfl | rfl | ⟨_, _, _, e⟩
 ·omega
 ·omega
 ·omega
 ·exact e
theorem fF {s c : Int} (h0 : 0 <= s) (h1 : s <= 23) : (genAt s c < 0) ↔ ¬ s % 4 < perPage c := by
 have ht := hP c
 constructor
 ·intro hg hn
  rw [genAt_pos h0 h1 hn] at hg
  have : 0 <= s % 4 * strideOf c := Int.mul_nonneg (by omega) ht.1
  omega
 ·intro hn
  rw [cX (fun h => hn h.2.2)]
  decide
theorem jl {s : Int} (h0 : 0 <= s) (h1 : s <= 23) : ∃ n : Nat, s = n /\ n < 24 /\ (s / 4).toNat = n / 4 := ⟨s.toNat, by omega, by omega, by omega⟩
theorem c301 (h : Heap) (hz : sizHeap h <= 1048576) : Ctr prog 301 [.agg ((encHeap h).map .dat)] [] (.one (.dat (.bool (heapOk h)))) [] := by
 have hcs := c344 h hz
 have hcp := c345 h hz
 simp only [encHeap, List.map_cons, List.map_nil] at hcs hcp ⊢
 refine Ctr.bd aa func301 rfl ?_
 refine evl ?_
 refine scs ?_
 refine ck e344 (hcs) rfl ?_
 refine evl ?_
 constructor <;> intro hq
 ·have hs : shapedM h = false := by simpa using hq
  refine Fin.nt results301 [] ?_ ?_ ?_ <;> try trivial
  (refine rsl ?_; try exact .intro)
  simp only [heapOk, hs, Bool.false_and]
 have hs : shapedM h = true := by simpa using hq
 refine ab (fun zn zs => ∃ i : Nat, i <= 6 /\ zn = 6 - i /\ (∀ j, j < i -> pageOkM h j = true) /\ zs = mkSt [(7, .one (.dat (.int .i64 i))), (1, .one (.ptr (.own 0 0 0)))] [.box [.dat (.sl 1 (h.Bytes.map encI)), .dat (.sl 1 (h.Class.map encI))]]) (6) _
  (Ent.wk [0]) ⟨0, by omega, by omega, fun j hj => absurd hj (Nat.not_lt_zero j), rfl⟩ ?_
 rintro zn zs ⟨i, hi, rfl, hinv, rfl⟩ K hK
 rcases Nat.lt_or_ge i (6) with hlt | hge
 ·have hdi : decide ((i : Int) < ((6 : Nat) : Int)) = true := decide_eq_true (by omega)
  have hw := ah hlt (show 6 <= maxLen by decide)
  have hd6 : decide ((i : Int) < 6) = true := decide_eq_true (by omega)
  refine sv26 ?_
  refine ck e345 (hcp hs (i : Int) i rfl hlt) rfl ?_
  refine sv26 ?_
  constructor <;> intro hq
  ·have h' : pageOkM h i = false := by simpa using hq
   apply hK
   refine sv26 ?_
   refine Fin.nt results301 [] ?_ ?_ ?_ <;> try trivial
   (refine rsl ?_; try exact .intro)
   exact (er hlt h').symm
  ·have h' : pageOkM h i = true := by simpa using hq
   (apply hK
    exact ⟨6 - (i + 1), _, by omega, Ent.wk [0], i + 1, by omega, rfl, (fun j hj => by rcases Nat.lt_succ_iff_lt_or_eq.1 hj with hj | rfl; exact hinv j hj; exact h'), rfl⟩)
 ·have hge' : 6 = i := by omega
  subst hge'
  have hdi : decide (((6 : Nat) : Int) < ((6 : Nat) : Int)) = false := by simp
  have hd6 : decide (((6 : Nat) : Int) < 6) = false := rfl
  refine sv22 ?_
  apply hK
  refine evl ?_
  refine Fin.nt results301 [] ?_ ?_ ?_ <;> try trivial
  (refine rsl ?_; try exact .intro)
  exact (fg hs hinv).symm
theorem c285 (h : Heap) (hz : sizHeap h <= 1048576) : Ctr prog 285 [.agg ((encHeap h).map .dat)] [] (.one (.dat (.bool (heapOk h)))) [] := by
 have hcs := c336 h hz
 have hcp := c337 h hz
 simp only [encHeap, List.map_cons, List.map_nil] at hcs hcp ⊢
 refine Ctr.bd aa func285 rfl ?_
 refine evl ?_
 refine scs ?_
 refine ck e336 (hcs) rfl ?_
 refine evl ?_
 constructor <;> intro hq
 ·have hs : shapedM h = false := by simpa using hq
  refine Fin.nt results285 [] ?_ ?_ ?_ <;> try trivial
  (refine rsl ?_; try exact .intro)
  simp only [heapOk, hs, Bool.false_and]
 have hs : shapedM h = true := by simpa using hq
 refine ab (fun zn zs => ∃ i : Nat, i <= 6 /\ zn = 6 - i /\ (∀ j, j < i -> pageOkM h j = true) /\ zs = mkSt [(3, .one (.dat (.int .i64 i))), (1, .one (.ptr (.own 0 0 0)))] [.box [.dat (.sl 1 (h.Bytes.map encI)), .dat (.sl 1 (h.Class.map encI))]]) (6) _
  (Ent.wk [0]) ⟨0, by omega, by omega, fun j hj => absurd hj (Nat.not_lt_zero j), rfl⟩ ?_
 rintro zn zs ⟨i, hi, rfl, hinv, rfl⟩ K hK
 rcases Nat.lt_or_ge i (6) with hlt | hge
 ·have hdi : decide ((i : Int) < ((6 : Nat) : Int)) = true := decide_eq_true (by omega)
  have hw := ah hlt (show 6 <= maxLen by decide)
  have hd6 : decide ((i : Int) < 6) = true := decide_eq_true (by omega)
  refine sv26 ?_
  refine ck e337 (hcp hs (i : Int) i rfl hlt) rfl ?_
  refine sv26 ?_
  constructor <;> intro hq
  ·have h' : pageOkM h i = false := by simpa using hq
   apply hK
   refine sv26 ?_
   refine Fin.nt results285 [] ?_ ?_ ?_ <;> try trivial
   (refine rsl ?_; try exact .intro)
   exact (er hlt h').symm
  ·have h' : pageOkM h i = true := by simpa using hq
   (apply hK
    exact ⟨6 - (i + 1), _, by omega, Ent.wk [0], i + 1, by omega, rfl, (fun j hj => by rcases Nat.lt_succ_iff_lt_or_eq.1 hj with hj | rfl; exact hinv j hj; exact h'), rfl⟩)
 ·have hge' : 6 = i := by omega
  subst hge'
  have hdi : decide (((6 : Nat) : Int) < ((6 : Nat) : Int)) = false := by simp
  have hd6 : decide (((6 : Nat) : Int) < 6) = false := rfl
  refine sv22 ?_
  apply hK
  refine evl ?_
  refine Fin.nt results285 [] ?_ ?_ ?_ <;> try trivial
  (refine rsl ?_; try exact .intro)
  exact (fg hs hinv).symm
theorem c265 (h : Heap) (hlc : h.Class.length = 6) (s : Int) : Ctr prog 265 [.agg ((encHeap h).map .dat), .one (.dat (.int .i64 s))] [] (.one (.dat (.int .i64 (classInM h s)))) [] := by
 simp only [encHeap, List.map_cons, List.map_nil]
 rcases bE s with ⟨h1, h2, hw⟩ | ⟨h1, hw⟩
 ·obtain ⟨n, rfl, hn, e4⟩ := jl h1 h2
  have hcn : clsN h (n : Int) = clsAt h (n / 4) := by rw [clsN, e4]
  have hdv : Int.tdiv (n : Int) 4 = ((n / 4 : Nat) : Int) := by rw [Int.tdiv_eq_ediv_of_nonneg (by omega)]; omega
  have hdw : IntKind.i64.wrap ((n / 4 : Nat) : Int) = ((n / 4 : Nat) : Int) := by rw [wrap_id] <;> omega
  refine Ctr.bd aa func265 rfl ?_
  refine evl ?_
  refine scs ?_
  refine ck e326 (c326 (n : Int)) rfl ?_
  rw [hw]
  simp (maxSteps := 2000000) only [go_sem, seval, hdv, hdw, Int.toNat_natCast, cC hlc (show n / 4 < 6 by omega), hlc]
  refine scs ?_
  refine ck e325 (c325 (n : Int) (clsAt h (n / 4))) rfl ?_
  simp (maxSteps := 2000000) only [go_sem, seval, hdv, hdw, Int.toNat_natCast, cC hlc (show n / 4 < 6 by omega), hlc]
  refine scs ?_
  constructor <;> intro hq
  ·refine Fin.nt results265 [] ?_ ?_ ?_ <;> try trivial
   (refine rsl ?_; try exact .intro)
   have hq := of_decide_eq_true hq
   exact (fh (by rw [hcn]; exact (fF h1 h2).1 hq)).symm
  ·refine scs ?_
   refine Fin.nt results265 [] ?_ ?_ ?_ <;> try trivial
   (refine rsl ?_; try exact .intro)
   have hq := of_decide_eq_false hq
   rw [classInM_yes h1 h2 (by rw [hcn]; exact Decidable.not_not.1 (fun hx => hq ((fF h1 h2).2 hx))), hcn]
 ·refine Ctr.bd aa func265 rfl ?_
  refine evl ?_
  refine scs ?_
  refine ck e326 (c326 s) rfl ?_
  rw [hw]
  refine evl ?_
  refine scs ?_
  first | refine aM (.one (.dat (.int .i64 0))) ?_ | refine aN (.one (.dat (.int .i64 0))) ?_
  refine evl ?_
  refine scs ?_
  refine Fin.nt results265 [] ?_ ?_ ?_ <;> try trivial
  (refine rsl ?_; try exact .intro)
  exact (eu h1).symm
theorem c258 (h : Heap) (hlc : h.Class.length = 6) (s : Int) : Ctr prog 258 [.agg ((encHeap h).map .dat), .one (.dat (.int .i64 s))] [] (.one (.dat (.int .i64 (classInM h s)))) [] := by
 simp only [encHeap, List.map_cons, List.map_nil]
 rcases bE s with ⟨h1, h2, hw⟩ | ⟨h1, hw⟩
 ·obtain ⟨n, rfl, hn, e4⟩ := jl h1 h2
  have hcn : clsN h (n : Int) = clsAt h (n / 4) := by rw [clsN, e4]
  have hpg : pageOf (n : Int) = ((n / 4 : Nat) : Int) := by simp only [pageOf, if_pos (And.intro h1 h2)]; omega
  have hix : indexOf (n : Int) = (n : Int) % 4 := by simp only [indexOf, if_pos (And.intro h1 h2)]
  have hdn : decide (((n / 4 : Nat) : Int) < 0) = false := decide_eq_false (by omega)
  refine Ctr.bd aa func258 rfl ?_
  refine evl ?_
  refine scs ?_
  refine ck e321 (c321 (n : Int)) rfl ?_
  rw [hpg]
  refine sv27 ?_
  refine scs ?_
  refine ck e322 (c322 (n : Int)) rfl ?_
  rw [hix]
  refine sv27 ?_
  refine scs ?_
  refine ck e323 (c323 (clsAt h (n / 4))) rfl ?_
  refine sv27 ?_
  refine scs ?_
  constructor <;> intro hq
  ·refine Fin.nt results258 [] ?_ ?_ ?_ <;> try trivial
   (refine rsl ?_; try exact .intro)
   refine (fh ?_).symm
   rw [hcn]
   intro hlt
   have hc0 : ¬ clsAt h (n / 4) < 0 := fun hx => by rw [j2 hx] at hlt; omega
   simp only [decide_eq_false hc0, cond_false, decide_eq_true_eq] at hq
   omega
  ·refine scs ?_
   refine Fin.nt results258 [] ?_ ?_ ?_ <;> try trivial
   (refine rsl ?_; try exact .intro)
   rw [classInM_yes h1 h2, hcn]
   rw [hcn]
   by_cases hc0 : clsAt h (n / 4) < 0
   ·simp [hc0] at hq
   ·simp only [decide_eq_false hc0, cond_false, decide_eq_false_iff_not] at hq
    omega
 ·have hpg : pageOf s = -1 := by simp only [pageOf, if_neg h1]
  refine Ctr.bd aa func258 rfl ?_
  refine evl ?_
  refine scs ?_
  refine ck e321 (c321 s) rfl ?_
  rw [hpg]
  refine sv28 ?_
  refine scs ?_
  first | refine aM (.one (.dat (.int .i64 0))) ?_ | refine aN (.one (.dat (.int .i64 0))) ?_
  refine sv28 ?_
  refine scs ?_
  first | refine aM (.one (.dat (.int .i64 0))) ?_ | refine aN (.one (.dat (.int .i64 0))) ?_
  refine sv28 ?_
  refine scs ?_
  refine Fin.nt results258 [] ?_ ?_ ?_ <;> try trivial
  (refine rsl ?_; try exact .intro)
  exact (eu h1).symm
def classAtM (h : Heap) (s : Int) : Int := if shapedM h = true then classInM h s else -1
def genInM (h : Heap) (s : Int) : Int := loadN h.Bytes (genAt s (classInM h s)).toNat 4
def genOfM (h : Heap) (s : Int) : Int := if classAtM h s < 0 then 0 else genInM h s
theorem lj {h : Heap} {s : Int} (hs : shapedM h = true) (h0 : 0 <= s) (h1 : s <= 23) : -1 <= clsN h s /\ clsN h s <= 2 := gE hs (by omega)
theorem b8 {h : Heap} {s : Int} (hs : shapedM h = true) (hc : 0 <= classInM h s) : 0 <= s /\ s <= 23 /\ s % 4 < perPage (classInM h s) /\ classInM h s <= 2 /\ 0 <= genAt s (classInM h s) /\ genAt s (classInM h s) + 4 + sizeOf (classInM h s) <= 384 := by
 unfold classInM at hc ⊢
 split at hc
 ·rename_i hx
  rw [if_pos hx]
  have hb := lj hs hx.1 hx.2.1
  have hg : 0 <= genAt s (clsN h s) := by
   have : ¬ genAt s (clsN h s) < 0 := fun hy => (fF hx.1 hx.2.1).1 hy hx.2.2
   omega
  exact ⟨hx.1, hx.2.1, hx.2.2, hb.2, hg, (dc hg).2.2.2.2.2⟩
 ·omega
theorem gq (c : Int) : 0 <= sizeOf c /\ sizeOf c <= 40 := by
 unfold sizeOf; repeat' split
 all_goals omega
theorem c349 (h : Heap) (hz : sizHeap h <= 1048576) (s : Int) : Ctr prog 349 [.agg ((encHeap h).map .dat), .one (.dat (.int .i64 s))] [] (.one (.dat (.int .i64 (classAtM h s)))) [] := by
 have hcs := c344 h hz
 have hcc := fun hs => c265 h (aF hs).2.2.1 s
 simp only [encHeap, List.map_cons, List.map_nil] at hcs hcc ⊢
 refine Ctr.bd aa func349 rfl ?_
 refine evl ?_
 refine scs ?_
 refine ck e344 (hcs) rfl ?_
 refine evl ?_
 constructor <;> intro hq
 ·have hs : shapedM h = false := by simpa using hq
  refine Fin.nt results349 [] ?_ ?_ ?_ <;> try trivial
  (refine rsl ?_; try exact .intro)
  simp [classAtM, hs]
 have hs : shapedM h = true := by simpa using hq
 refine ck e265 (hcc hs) rfl ?_
 refine evl ?_
 refine Fin.nt results349 [] ?_ ?_ ?_ <;> try trivial
 (refine rsl ?_; try exact .intro)
 simp [classAtM, hs]
theorem c256 (h : Heap) (hs : shapedM h = true) (s : Int) (hc : 0 <= classInM h s) : Ctr prog 256 [.agg ((encHeap h).map .dat), .one (.dat (.int .i64 s))] [] (.one (.dat (.int .i64 (genInM h s)))) [] := by
 obtain ⟨hl, hb, hlc, _⟩ := aF hs
 have hbd := b8 hs hc
 have hsz := gq (classInM h s)
 have hcc := c258 h hlc s
 simp only [encHeap, List.map_cons, List.map_nil] at hcc ⊢
 refine Ctr.bd aa func256 rfl ?_
 refine evl ?_
 refine scs ?_
 refine ck e258 (hcc) rfl ?_
 refine evl ?_
 refine ck e320 (c320 s (classInM h s)) rfl ?_
 refine evl ?_
 refine ck e261 (c261 h.Bytes (by omega) _ (genAt s (classInM h s)).toNat (by omega) 4 4 rfl (by decide) (by omega) hb) rfl ?_
 refine evl ?_
 refine Fin.nt results256 [] ?_ ?_ ?_ <;> try trivial
theorem c312 (h : Heap) (hz : sizHeap h <= 1048576) (s : Int) : Ctr prog 312 [.agg ((encHeap h).map .dat), .one (.dat (.int .i64 s))] [] (.one (.dat (.int .i64 (genOfM h s)))) [] := by
 have hcs := c349 h hz s
 simp only [encHeap, List.map_cons, List.map_nil] at hcs ⊢
 refine Ctr.bd aa func312 rfl ?_
 refine evl ?_
 refine scs ?_
 refine ck e349 (hcs) rfl ?_
 refine evl ?_
 constructor <;> intro hq
 ·refine Fin.nt results312 [] ?_ ?_ ?_ <;> try trivial
  (refine rsl ?_; try exact .intro)
  simp [genOfM, of_decide_eq_true hq]
 have hq := of_decide_eq_false hq
 have hs : shapedM h = true := by
  refine Decidable.byContradiction fun hn => hq ?_
  simp [classAtM, hn]
 have hci : classAtM h s = classInM h s := by simp [classAtM, hs]
 obtain ⟨hl, hb, hlc, _⟩ := aF hs
 have hbd := b8 (s := s) hs (by omega)
 have hsz := gq (classInM h s)
 rw [hci]
 refine scs ?_
 refine ck e325 (c325 s (classInM h s)) rfl ?_
 refine evl ?_
 refine ck e161 (c161 h.Bytes (by omega) _ (genAt s (classInM h s)).toNat (by omega) 4 4 rfl (by decide) (by omega) hb) rfl ?_
 refine evl ?_
 refine Fin.nt results312 [] ?_ ?_ ?_ <;> try trivial
 (refine rsl ?_; try exact .intro)
 rw [genOfM, if_neg hq, genInM]
end Go.Proofs.YtkmmgklnoagedaaGreat.Mod
