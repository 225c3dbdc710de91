/- Contracts: Sl3. -/
import Derived.Test.YtcanhdhlbghfiaaGreatRows
import Derived.Test.YtcanhdhlbghfiaaGreatCTy
import Derived.Test.YtcanhdhlbghfiaaGreatAbsTac
import Derived.Test.YtcanhdhlbghfiaaGreatAbsData
import Derived.Test.YtcanhdhlbghfiaaGreatCFam2
import Derived.Test.YtcanhdhlbghfiaaGreatCSl2
import Derived.WalkKit
import Derived.ProofKit
import Derived.OpenShut
namespace Go.Proofs.YtcanhdhlbghfiaaGreat.Mod
open Go.Proofs.Tryz Go.Abs Go.Proofs.YtcanhdhlbghfiaaGreat.Ty Go.ChangeShapes Go.WideShapes Go.ChangeAt Go.RowKit
set_option linter.unusedSimpArgs false
set_option linter.unusedVariables false
set_option maxHeartbeats 8000000
set_option maxRecDepth 100000
theorem c294 (l l' : List Int) (hl : l.length <= maxLen) (hl' : l'.length <= maxLen) : Ctr prog 294 [.one (.dat (.sl 1 (l.map encI))), .one (.dat (.sl 1 (l'.map encI)))] [] (.one (.dat (.bool (decide (l = l'))))) [] := by
 refine Ctr.bd mixed func294 rfl ?_
 refine evl ?_
 constructor <;> intro h
 ·have hne : l.length ≠ l'.length := by simp at h; omega
  refine Fin.nt results294 [] ?_ ?_ ?_ <;> try trivial
  (refine rsl ?_; try exact .intro)
  symm; rw [decide_eq_false_iff_not]
  intro e; exact hne (by rw [e])
 have hlen : l.length = l'.length := by simp at h; omega
 refine LoopK_intro (fun n s => ∃ i : Nat, i <= l.length /\ n = l.length - i /\ l.take i = l'.take i /\ s = mkSt [(13, .one (.dat (.int .i64 i))), (12, .one (.dat (.int .i64 l.length))), (1, .one (.dat (.sl 1 (l'.map encI)))), (0, .one (.dat (.sl 1 (l.map encI))))] []) l.length _
  (Ent.wk []) ⟨0, by omega, by omega, rfl, rfl⟩ ?_
 rintro n s ⟨i, hi, rfl, ht, rfl⟩ K hK
 refine evl ?_
 constructor <;> intro h
 ·have hlt : i < l.length := by simpa using h
  have hlt' : i < l'.length := by omega
  simp only [getD_map hlt, getD_map hlt', encI, List.map_cons, List.map_nil, List.take_succ_cons, List.take_zero]
  refine sv1 ?_
  repeat' first
   | with_reducible intro h
   | ((with_reducible show _ /\ _); apply And.intro)
  all_goals try (first | assumption | exact True.intro | omega | (clear hK; simp_all; done))
  ·apply hK
   refine evl ?_
   refine Fin.nt results294 [] ?_ ?_ ?_ <;> try trivial
   (refine rsl ?_; try exact .intro)
   symm; rw [decide_eq_false_iff_not]
   rintro rfl; simp at h
  ·apply hK
   have he : l[i] = l'[i] := by simpa using h
   refine ⟨l.length - (i + 1), _, by omega, Ent.wk [], i + 1, by omega, rfl, ?_, rfl⟩
   rw [List.take_succ_eq_append_getElem hlt, List.take_succ_eq_append_getElem hlt', ht, he]
 ·have hge : i = l.length := by simp at h; omega
  subst hge
  apply hK
  refine evl ?_
  refine Fin.nt results294 [] ?_ ?_ ?_ <;> try trivial
  (refine rsl ?_; try exact .intro)
  symm; rw [decide_eq_true_iff]
  rw [List.take_of_length_le (Nat.le_refl _), List.take_of_length_le (by omega)] at ht
  exact ht
theorem c370 (l l' : List Cmd) (hl : l.length <= maxLen) (hl' : l'.length <= maxLen) : Ctr prog 370 [.one (.dat (.sl 3 (l.map encCmd))), .one (.dat (.sl 3 (l'.map encCmd)))] [] (.one (.dat (.bool (decide (l = l'))))) [] := by
 refine Ctr.bd mixed func370 rfl ?_
 refine evl ?_
 constructor <;> intro h
 ·have hne : l.length ≠ l'.length := by simp at h; omega
  refine Fin.nt results370 [] ?_ ?_ ?_ <;> try trivial
  (refine rsl ?_; try exact .intro)
  symm; rw [decide_eq_false_iff_not]
  intro e; exact hne (by rw [e])
 have hlen : l.length = l'.length := by simp at h; omega
 refine LoopK_intro (fun n s => ∃ i : Nat, i <= l.length /\ n = l.length - i /\ l.take i = l'.take i /\ s = mkSt [(13, .one (.dat (.int .i64 i))), (12, .one (.dat (.int .i64 l.length))), (1, .one (.dat (.sl 3 (l'.map encCmd)))), (0, .one (.dat (.sl 3 (l.map encCmd))))] []) l.length _
  (Ent.wk []) ⟨0, by omega, by omega, rfl, rfl⟩ ?_
 rintro n s ⟨i, hi, rfl, ht, rfl⟩ K hK
 refine evl ?_
 constructor <;> intro h
 ·have hlt : i < l.length := by simpa using h
  have hlt' : i < l'.length := by omega
  simp only [getD_map hlt, getD_map hlt', encCmd, List.map_cons, List.map_nil, List.take_succ_cons, List.take_zero]
  refine sv1 ?_
  repeat' first
   | with_reducible intro h
   | ((with_reducible show _ /\ _); apply And.intro)
  all_goals try (first | assumption | exact True.intro | omega | (clear hK; simp_all; done))
  ·apply hK
   refine evl ?_
   refine Fin.nt results370 [] ?_ ?_ ?_ <;> try trivial
   (refine rsl ?_; try exact .intro)
   symm; rw [decide_eq_false_iff_not]
   rintro rfl; simp at h
  ·apply hK
   have he : l[i] = l'[i] := by rw [Cmd.eq_iff]; simpa using h
   refine ⟨l.length - (i + 1), _, by omega, Ent.wk [], i + 1, by omega, rfl, ?_, rfl⟩
   rw [List.take_succ_eq_append_getElem hlt, List.take_succ_eq_append_getElem hlt', ht, he]
 ·have hge : i = l.length := by simp at h; omega
  subst hge
  apply hK
  refine evl ?_
  refine Fin.nt results370 [] ?_ ?_ ?_ <;> try trivial
  (refine rsl ?_; try exact .intro)
  symm; rw [decide_eq_true_iff]
  rw [List.take_of_length_le (Nat.le_refl _), List.take_of_length_le (by omega)] at ht
  exact ht
theorem c293 (l l' : List Res) (hl : l.length <= maxLen) (hl' : l'.length <= maxLen) : Ctr prog 293 [.one (.dat (.sl 2 (l.map encRes))), .one (.dat (.sl 2 (l'.map encRes)))] [] (.one (.dat (.bool (decide (l = l'))))) [] := by
 refine Ctr.bd mixed func293 rfl ?_
 refine evl ?_
 constructor <;> intro h
 ·have hne : l.length ≠ l'.length := by simp at h; omega
  refine Fin.nt results293 [] ?_ ?_ ?_ <;> try trivial
  (refine rsl ?_; try exact .intro)
  symm; rw [decide_eq_false_iff_not]
  intro e; exact hne (by rw [e])
 have hlen : l.length = l'.length := by simp at h; omega
 refine LoopK_intro (fun n s => ∃ i : Nat, i <= l.length /\ n = l.length - i /\ l.take i = l'.take i /\ s = mkSt [(13, .one (.dat (.int .i64 i))), (12, .one (.dat (.int .i64 l.length))), (1, .one (.dat (.sl 2 (l'.map encRes)))), (0, .one (.dat (.sl 2 (l.map encRes))))] []) l.length _
  (Ent.wk []) ⟨0, by omega, by omega, rfl, rfl⟩ ?_
 rintro n s ⟨i, hi, rfl, ht, rfl⟩ K hK
 refine evl ?_
 constructor <;> intro h
 ·have hlt : i < l.length := by simpa using h
  have hlt' : i < l'.length := by omega
  simp only [getD_map hlt, getD_map hlt', encRes, List.map_cons, List.map_nil, List.take_succ_cons, List.take_zero]
  refine sv1 ?_
  repeat' first
   | with_reducible intro h
   | ((with_reducible show _ /\ _); apply And.intro)
  all_goals try (first | assumption | exact True.intro | omega | (clear hK; simp_all; done))
  ·apply hK
   refine evl ?_
   refine Fin.nt results293 [] ?_ ?_ ?_ <;> try trivial
   (refine rsl ?_; try exact .intro)
   symm; rw [decide_eq_false_iff_not]
   rintro rfl; simp at h
  ·apply hK
   have he : l[i] = l'[i] := by rw [Res.eq_iff]; simpa using h
   refine ⟨l.length - (i + 1), _, by omega, Ent.wk [], i + 1, by omega, rfl, ?_, rfl⟩
   rw [List.take_succ_eq_append_getElem hlt, List.take_succ_eq_append_getElem hlt', ht, he]
 ·have hge : i = l.length := by simp at h; omega
  subst hge
  apply hK
  refine evl ?_
  refine Fin.nt results293 [] ?_ ?_ ?_ <;> try trivial
  (refine rsl ?_; try exact .intro)
  symm; rw [decide_eq_true_iff]
  rw [List.take_of_length_le (Nat.le_refl _), List.take_of_length_le (by omega)] at ht
  exact ht
theorem c291 (l l' : List Seen) (hl : l.length <= maxLen) (hl' : l'.length <= maxLen) : Ctr prog 291 [.one (.dat (.sl 2 (l.map encSeen))), .one (.dat (.sl 2 (l'.map encSeen)))] [] (.one (.dat (.bool (decide (l = l'))))) [] := by
 refine Ctr.bd mixed func291 rfl ?_
 refine evl ?_
 constructor <;> intro h
 ·have hne : l.length ≠ l'.length := by simp at h; omega
  refine Fin.nt results291 [] ?_ ?_ ?_ <;> try trivial
  (refine rsl ?_; try exact .intro)
  symm; rw [decide_eq_false_iff_not]
  intro e; exact hne (by rw [e])
 have hlen : l.length = l'.length := by simp at h; omega
 refine LoopK_intro (fun n s => ∃ i : Nat, i <= l.length /\ n = l.length - i /\ l.take i = l'.take i /\ s = mkSt [(13, .one (.dat (.int .i64 i))), (12, .one (.dat (.int .i64 l.length))), (1, .one (.dat (.sl 2 (l'.map encSeen)))), (0, .one (.dat (.sl 2 (l.map encSeen))))] []) l.length _
  (Ent.wk []) ⟨0, by omega, by omega, rfl, rfl⟩ ?_
 rintro n s ⟨i, hi, rfl, ht, rfl⟩ K hK
 refine evl ?_
 constructor <;> intro h
 ·have hlt : i < l.length := by simpa using h
  have hlt' : i < l'.length := by omega
  simp only [getD_map hlt, getD_map hlt', encSeen, List.map_cons, List.map_nil, List.take_succ_cons, List.take_zero]
  refine sv1 ?_
  repeat' first
   | with_reducible intro h
   | ((with_reducible show _ /\ _); apply And.intro)
  all_goals try (first | assumption | exact True.intro | omega | (clear hK; simp_all; done))
  ·apply hK
   refine evl ?_
   refine Fin.nt results291 [] ?_ ?_ ?_ <;> try trivial
   (refine rsl ?_; try exact .intro)
   symm; rw [decide_eq_false_iff_not]
   rintro rfl; simp at h
  ·apply hK
   have he : l[i] = l'[i] := by rw [Seen.eq_iff]; simpa using h
   refine ⟨l.length - (i + 1), _, by omega, Ent.wk [], i + 1, by omega, rfl, ?_, rfl⟩
   rw [List.take_succ_eq_append_getElem hlt, List.take_succ_eq_append_getElem hlt', ht, he]
 ·have hge : i = l.length := by simp at h; omega
  subst hge
  apply hK
  refine evl ?_
  refine Fin.nt results291 [] ?_ ?_ ?_ <;> try trivial
  (refine rsl ?_; try exact .intro)
  symm; rw [decide_eq_true_iff]
  rw [List.take_of_length_le (Nat.le_refl _), List.take_of_length_le (by omega)] at ht
  exact ht
theorem c292 (l l' : List Write) (hl : l.length <= maxLen) (hl' : l'.length <= maxLen) : Ctr prog 292 [.one (.dat (.sl 3 (l.map encWrite))), .one (.dat (.sl 3 (l'.map encWrite)))] [] (.one (.dat (.bool (decide (l = l'))))) [] := by
 refine Ctr.bd mixed func292 rfl ?_
 refine evl ?_
 constructor <;> intro h
 ·have hne : l.length ≠ l'.length := by simp at h; omega
  refine Fin.nt results292 [] ?_ ?_ ?_ <;> try trivial
  (refine rsl ?_; try exact .intro)
  symm; rw [decide_eq_false_iff_not]
  intro e; exact hne (by rw [e])
 have hlen : l.length = l'.length := by simp at h; omega
 refine LoopK_intro (fun n s => ∃ i : Nat, i <= l.length /\ n = l.length - i /\ l.take i = l'.take i /\ s = mkSt [(13, .one (.dat (.int .i64 i))), (12, .one (.dat (.int .i64 l.length))), (1, .one (.dat (.sl 3 (l'.map encWrite)))), (0, .one (.dat (.sl 3 (l.map encWrite))))] []) l.length _
  (Ent.wk []) ⟨0, by omega, by omega, rfl, rfl⟩ ?_
 rintro n s ⟨i, hi, rfl, ht, rfl⟩ K hK
 refine evl ?_
 constructor <;> intro h
 ·have hlt : i < l.length := by simpa using h
  have hlt' : i < l'.length := by omega
  simp only [getD_map hlt, getD_map hlt', encWrite, List.map_cons, List.map_nil, List.take_succ_cons, List.take_zero]
  refine sv1 ?_
  repeat' first
   | with_reducible intro h
   | ((with_reducible show _ /\ _); apply And.intro)
  all_goals try (first | assumption | exact True.intro | omega | (clear hK; simp_all; done))
  ·apply hK
   refine evl ?_
   refine Fin.nt results292 [] ?_ ?_ ?_ <;> try trivial
   (refine rsl ?_; try exact .intro)
   symm; rw [decide_eq_false_iff_not]
   rintro rfl; simp at h
  ·apply hK
   have he : l[i] = l'[i] := by rw [Write.eq_iff]; simpa using h
   refine ⟨l.length - (i + 1), _, by omega, Ent.wk [], i + 1, by omega, rfl, ?_, rfl⟩
   rw [List.take_succ_eq_append_getElem hlt, List.take_succ_eq_append_getElem hlt', ht, he]
 ·have hge : i = l.length := by simp at h; omega
  subst hge
  apply hK
  refine evl ?_
  refine Fin.nt results292 [] ?_ ?_ ?_ <;> try trivial
  (refine rsl ?_; try exact .intro)
  symm; rw [decide_eq_true_iff]
  rw [List.take_of_length_le (Nat.le_refl _), List.take_of_length_le (by omega)] at ht
  exact ht
theorem c147 (l l' : List Int) (hl : l.length <= maxLen) (hl' : l'.length <= maxLen) : Ctr prog 147 [.one (.dat (.sl 1 (l.map encI))), .one (.dat (.sl 1 (l'.map encI)))] [] (.one (.dat (.bool (decide (l = l'))))) [] := by
 refine Ctr.bd mixed func147 rfl ?_
 refine evl ?_
 constructor <;> intro h
 ·have hne : l.length ≠ l'.length := by simp at h; omega
  refine Fin.nt results147 [] ?_ ?_ ?_ <;> try trivial
  (refine rsl ?_; try exact .intro)
  symm; rw [decide_eq_false_iff_not]
  intro e; exact hne (by rw [e])
 have hlen : l.length = l'.length := by simp at h; omega
 refine LoopK_intro (fun n s => ∃ i : Nat, i <= l.length /\ n = l.length - i /\ l.take i = l'.take i /\ s = mkSt [(5, .one (.dat (.int .i64 i))), (1, .one (.dat (.sl 1 (l'.map encI)))), (0, .one (.dat (.sl 1 (l.map encI))))] []) l.length _
  (Ent.wk []) ⟨0, by omega, by omega, rfl, rfl⟩ ?_
 rintro n s ⟨i, hi, rfl, ht, rfl⟩ K hK
 refine evl ?_
 constructor <;> intro h
 ·have hlt : i < l.length := by simpa using h
  have hlt' : i < l'.length := by omega
  simp only [getD_map hlt, getD_map hlt', encI, List.map_cons, List.map_nil, List.take_succ_cons, List.take_zero]
  refine sv1 ?_
  repeat' first
   | with_reducible intro h
   | ((with_reducible show _ /\ _); apply And.intro)
  all_goals try (first | assumption | exact True.intro | omega | (clear hK; simp_all; done))
  ·apply hK
   refine evl ?_
   refine Fin.nt results147 [] ?_ ?_ ?_ <;> try trivial
   (refine rsl ?_; try exact .intro)
   symm; rw [decide_eq_false_iff_not]
   rintro rfl; simp at h
  ·apply hK
   have he : l[i] = l'[i] := by simpa using h
   refine ⟨l.length - (i + 1), _, by omega, Ent.wk [], i + 1, by omega, rfl, ?_, rfl⟩
   rw [List.take_succ_eq_append_getElem hlt, List.take_succ_eq_append_getElem hlt', ht, he]
 ·have hge : i = l.length := by simp at h; omega
  subst hge
  apply hK
  refine evl ?_
  refine Fin.nt results147 [] ?_ ?_ ?_ <;> try trivial
  (refine rsl ?_; try exact .intro)
  symm; rw [decide_eq_true_iff]
  rw [List.take_of_length_le (Nat.le_refl _), List.take_of_length_le (by omega)] at ht
  exact ht
theorem c269 (l l' : List Cmd) (hl : l.length <= maxLen) (hl' : l'.length <= maxLen) : Ctr prog 269 [.one (.dat (.sl 3 (l.map encCmd))), .one (.dat (.sl 3 (l'.map encCmd)))] [] (.one (.dat (.bool (decide (l = l'))))) [] := by
 refine Ctr.bd mixed func269 rfl ?_
 refine evl ?_
 constructor <;> intro h
 ·have hne : l.length ≠ l'.length := by simp at h; omega
  refine Fin.nt results269 [] ?_ ?_ ?_ <;> try trivial
  (refine rsl ?_; try exact .intro)
  symm; rw [decide_eq_false_iff_not]
  intro e; exact hne (by rw [e])
 have hlen : l.length = l'.length := by simp at h; omega
 refine LoopK_intro (fun n s => ∃ i : Nat, i <= l.length /\ n = l.length - i /\ l.take i = l'.take i /\ s = mkSt [(5, .one (.dat (.int .i64 i))), (1, .one (.dat (.sl 3 (l'.map encCmd)))), (0, .one (.dat (.sl 3 (l.map encCmd))))] []) l.length _
  (Ent.wk []) ⟨0, by omega, by omega, rfl, rfl⟩ ?_
 rintro n s ⟨i, hi, rfl, ht, rfl⟩ K hK
 refine evl ?_
 constructor <;> intro h
 ·have hlt : i < l.length := by simpa using h
  have hlt' : i < l'.length := by omega
  simp only [getD_map hlt, getD_map hlt', encCmd, List.map_cons, List.map_nil, List.take_succ_cons, List.take_zero]
  refine sv1 ?_
  repeat' first
   | with_reducible intro h
   | ((with_reducible show _ /\ _); apply And.intro)
  all_goals try (first | assumption | exact True.intro | omega | (clear hK; simp_all; done))
  ·apply hK
   refine evl ?_
   refine Fin.nt results269 [] ?_ ?_ ?_ <;> try trivial
   (refine rsl ?_; try exact .intro)
   symm; rw [decide_eq_false_iff_not]
   rintro rfl; simp at h
  ·apply hK
   have he : l[i] = l'[i] := by rw [Cmd.eq_iff]; simpa using h
   refine ⟨l.length - (i + 1), _, by omega, Ent.wk [], i + 1, by omega, rfl, ?_, rfl⟩
   rw [List.take_succ_eq_append_getElem hlt, List.take_succ_eq_append_getElem hlt', ht, he]
 ·have hge : i = l.length := by simp at h; omega
  subst hge
  apply hK
  refine evl ?_
  refine Fin.nt results269 [] ?_ ?_ ?_ <;> try trivial
  (refine rsl ?_; try exact .intro)
  symm; rw [decide_eq_true_iff]
  rw [List.take_of_length_le (Nat.le_refl _), List.take_of_length_le (by omega)] at ht
  exact ht
theorem c146 (l l' : List Res) (hl : l.length <= maxLen) (hl' : l'.length <= maxLen) : Ctr prog 146 [.one (.dat (.sl 2 (l.map encRes))), .one (.dat (.sl 2 (l'.map encRes)))] [] (.one (.dat (.bool (decide (l = l'))))) [] := by
 refine Ctr.bd mixed func146 rfl ?_
 refine evl ?_
 constructor <;> intro h
 ·have hne : l.length ≠ l'.length := by simp at h; omega
  refine Fin.nt results146 [] ?_ ?_ ?_ <;> try trivial
  (refine rsl ?_; try exact .intro)
  symm; rw [decide_eq_false_iff_not]
  intro e; exact hne (by rw [e])
 have hlen : l.length = l'.length := by simp at h; omega
 refine LoopK_intro (fun n s => ∃ i : Nat, i <= l.length /\ n = l.length - i /\ l.take i = l'.take i /\ s = mkSt [(5, .one (.dat (.int .i64 i))), (1, .one (.dat (.sl 2 (l'.map encRes)))), (0, .one (.dat (.sl 2 (l.map encRes))))] []) l.length _
  (Ent.wk []) ⟨0, by omega, by omega, rfl, rfl⟩ ?_
 rintro n s ⟨i, hi, rfl, ht, rfl⟩ K hK
 refine evl ?_
 constructor <;> intro h
 ·have hlt : i < l.length := by simpa using h
  have hlt' : i < l'.length := by omega
  simp only [getD_map hlt, getD_map hlt', encRes, List.map_cons, List.map_nil, List.take_succ_cons, List.take_zero]
  refine sv1 ?_
  repeat' first
   | with_reducible intro h
   | ((with_reducible show _ /\ _); apply And.intro)
  all_goals try (first | assumption | exact True.intro | omega | (clear hK; simp_all; done))
  ·apply hK
   refine evl ?_
   refine Fin.nt results146 [] ?_ ?_ ?_ <;> try trivial
   (refine rsl ?_; try exact .intro)
   symm; rw [decide_eq_false_iff_not]
   rintro rfl; simp at h
  ·apply hK
   have he : l[i] = l'[i] := by rw [Res.eq_iff]; simpa using h
   refine ⟨l.length - (i + 1), _, by omega, Ent.wk [], i + 1, by omega, rfl, ?_, rfl⟩
   rw [List.take_succ_eq_append_getElem hlt, List.take_succ_eq_append_getElem hlt', ht, he]
 ·have hge : i = l.length := by simp at h; omega
  subst hge
  apply hK
  refine evl ?_
  refine Fin.nt results146 [] ?_ ?_ ?_ <;> try trivial
  (refine rsl ?_; try exact .intro)
  symm; rw [decide_eq_true_iff]
  rw [List.take_of_length_le (Nat.le_refl _), List.take_of_length_le (by omega)] at ht
  exact ht
end Go.Proofs.YtcanhdhlbghfiaaGreat.Mod
