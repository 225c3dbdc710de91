/- Contracts: Fam. -/
import Derived.Test.YtjfpaiencojehaaGreatRows
import Derived.Test.YtjfpaiencojehaaGreatTy
import Derived.Test.YtjfpaiencojehaaGreatAbsTac
import Derived.Test.YtjfpaiencojehaaGreatAbsData
import Derived.Test.YtjfpaiencojehaaGreatMBase
import Derived.WalkKit
import Derived.ProofKit
import Derived.OpenShut
namespace Go.Proofs.YtjfpaiencojehaaGreat.Mod
open Go.Abs Go.Proofs.YtjfpaiencojehaaGreat.Ty Go.ChangeShapes Go.WideShapes Go.ChangeAt Go.RowKit
set_option linter.unusedSimpArgs false
set_option linter.unusedVariables false
set_option maxHeartbeats 8000000
set_option maxRecDepth 100000
structure KV where
  Key : Int
  Val : Int
  deriving DecidableEq
def encKV (x : KV) : List D := [.int .i64 x.Key, .int .i64 x.Val]
def KV.wf (x : KV) : Prop := (Lit.int .i64 x.Key).wf = true ∧ (Lit.int .i64 x.Val).wf = true ∧ True
theorem KV.eq_iff (x y : KV) : x = y ↔ x.Key = y.Key ∧ x.Val = y.Val := by cases x; cases y; simp
def markKV (k : Int) : KV := ⟨k, k + 1⟩
def markKVs (k : Int) (n : Nat) : List (List D) := (List.range n).map fun i => encKV (markKV (k + 2 * (i : Nat)))
theorem markKVs_length (k : Int) (n : Nat) : (markKVs k n).length = n := by simp [markKVs]
structure Seen where
  Bkt : Int
  Ver : Int
  deriving DecidableEq
def encSeen (x : Seen) : List D := [.int .i64 x.Bkt, .int .i64 x.Ver]
def Seen.wf (x : Seen) : Prop := (Lit.int .i64 x.Bkt).wf = true ∧ (Lit.int .i64 x.Ver).wf = true ∧ True
theorem Seen.eq_iff (x y : Seen) : x = y ↔ x.Bkt = y.Bkt ∧ x.Ver = y.Ver := by cases x; cases y; simp
theorem c133 (x : Seen) : Ctr Tryz.prog 133 [.agg ((encSeen x).map .dat)] [] (.agg ((encSeen x).map .dat)) [] := by
  simp only [encSeen, List.map_cons, List.map_nil]
  refine Ctr.bd mixed Tryz.func133 rfl ?_
  refine evl ?_
  repeat' first
    | ((with_reducible show Abs.Fin _ _ _ _ _ _); refine Fin.nt Tryz.results133 [] ?_ ?_ ?_ <;> try trivial)
    | with_reducible intro h
    | ((with_reducible show _ ∧ _); apply And.intro)
  all_goals first | rfl | simp
theorem c103 (l : List Seen) (hl : l.length ≤ 1048576) : Ctr Tryz.prog 103 [.one (.dat (.sl 2 (l.map encSeen)))] [] (.one (.own 0)) [.vec 2 true (l.map encSeen)] := by
  refine Ctr.bd mixed Tryz.func103 rfl ?_
  refine evl ?_
  refine ⟨by omega, ?_⟩
  refine LoopK_intro (fun n s => ∃ i : Nat, i ≤ l.length ∧ n = l.length - i ∧ s = mkSt [(4, .one (.dat (.int .i64 i))), (3, .one (.own 0)), (0, .one (.dat (.sl 2 (l.map encSeen))))]
      [.vec 2 true ((l.take i).map encSeen ++ List.replicate (l.length - i) [.int .i64 0, .int .i64 0])]) l.length _
    (Ent.weak (ids := [0]) (by simp) rfl (by simp) ?_ ?_ ?_) ⟨0, by omega, by omega, rfl⟩ ?_
  · simp [objsLe, St.obj, find, AObj.renF]
  · simp [envLe, find, AV.renF, AV.renF1, Leaf.renF]
  · simp [LowAll, AV.Low, AV.Low1, Leaf.Low, AObj.Low]
  rintro n s ⟨i, hi, rfl, rfl⟩ K hK
  refine evl ?_
  refine ⟨fun h => ?_, fun h => ?_⟩
  · have hlt : i < l.length := by simpa using h
    refine ⟨⟨by omega, by omega⟩, hlt, ?_⟩
    simp only [getD_map hlt, encSeen, List.map_cons, List.map_nil, List.take_succ_cons, List.take_zero]
    refine CallK_pure e133 (c133 l[i]) rfl ?_
    simp (maxSteps := 2000000) only [go_sem, ↓reduceIte, reduceCtorEq, Nat.reduceAdd, Nat.reduceMul, Nat.reduceSub, Nat.reduceLT, Nat.reduceLeDiff, Nat.reduceEqDiff, Int.reduceToNat, Int.reduceLT, Int.reduceLE, Int.reduceNeg, encSeen, D.flat, wrap_succ hlt (le20 hl)]
    refine ⟨by simp; omega, by simp; omega, ?_⟩
    apply hK
    refine ⟨l.length - (i + 1), _, by omega, Ent.weak (ids := [0]) (by simp) rfl (by simp) ?_ ?_ ?_, i + 1, by omega, rfl, rfl⟩
    · simp only [objsLe, St.obj, find, AObj.renF, if_true, Option.getD_some, List.getD_cons_zero, and_true]
      rw [← take_set encSeen l _ hlt]
      exact ⟨Nat.zero_lt_one, Or.inr rfl⟩
    · simp [envLe, find, AV.renF, AV.renF1, Leaf.renF]
    · simp [LowAll, AV.Low, AV.Low1, Leaf.Low, AObj.Low]
  · have hge : i = l.length := by simp at h; omega
    subst hge
    apply hK
    refine evl ?_
    refine Fin.nt Tryz.results103 [0] ?_ ?_ ?_ <;> try trivial
    all_goals simp [objsLe, St.obj, find, AObj.renF]
theorem c91 (rows : List (List D)) (left : Int) (h0 : 0 ≤ left) (h1 : left ≤ 1048576) (hl : rows.length ≤ maxLen) : Ctr Tryz.prog 91 [.one (.dat (.sl 2 rows)), .one (.dat (.int .i64 left))] [] (.one (.dat (.int .i64 (szL left rows.length)))) [] := by
  have hw := szL_wrap h0 h1 hl
  refine Ctr.bd mixed Tryz.func91 rfl ?_
  simp (maxSteps := 2000000) only [go_sem, ↓reduceIte, reduceCtorEq, Nat.reduceAdd, Nat.reduceMul, Nat.reduceSub, Nat.reduceLT, Nat.reduceLeDiff, Nat.reduceEqDiff, Int.reduceToNat, Int.reduceLT, Int.reduceLE, Int.reduceNeg, hw]
  repeat' first
    | ((with_reducible show Abs.Fin _ _ _ _ _ _); refine Fin.nt Tryz.results91 [] ?_ ?_ ?_ <;> try trivial)
    | with_reducible intro h
    | ((with_reducible show _ ∧ _); apply And.intro)
  all_goals try (first | exact True.intro | (refine rsl ?_; try exact True.intro))
  all_goals simp_all [szL]
  all_goals omega
theorem c140 (x y : Seen) : Ctr Tryz.prog 140 [.agg ((encSeen x).map .dat), .agg ((encSeen y).map .dat)] [] (.one (.dat (.bool (decide (x = y))))) [] := by
  simp only [encSeen, List.map_cons, List.map_nil]
  refine Ctr.bd mixed Tryz.func140 rfl ?_
  refine evl ?_
  repeat' first
    | ((with_reducible show Abs.Fin _ _ _ _ _ _); refine Fin.nt Tryz.results140 [] ?_ ?_ ?_ <;> try trivial)
    | with_reducible intro h
    | ((with_reducible show _ ∧ _); apply And.intro)
  all_goals try (first | exact True.intro | (refine rsl ?_; try exact True.intro))
  all_goals simp_all [Seen.eq_iff]
theorem c115 (l l' : List Seen) (hl : l.length ≤ maxLen) (hl' : l'.length ≤ maxLen) : Ctr Tryz.prog 115 [.one (.dat (.sl 2 (l.map encSeen))), .one (.dat (.sl 2 (l'.map encSeen)))] [] (.one (.dat (.bool (decide (l = l'))))) [] := by
  refine Ctr.bd mixed Tryz.func115 rfl ?_
  refine evl ?_
  refine ⟨fun h => ?_, fun h => ?_⟩
  · have hne : l.length ≠ l'.length := by simp at h; omega
    refine Fin.nt Tryz.results115 [] ?_ ?_ ?_ <;> try trivial
    first | exact True.intro | (refine rsl ?_; try exact True.intro)
    symm; rw [decide_eq_false_iff_not]
    intro e; exact hne (by rw [e])
  have hlen : l.length = l'.length := by simp at h; omega
  refine LoopK_intro (fun n s => ∃ i : Nat, i ≤ l.length ∧ n = l.length - i ∧ l.take i = l'.take i ∧ s = mkSt [(5, .one (.dat (.int .i64 i))), (1, .one (.dat (.sl 2 (l'.map encSeen)))), (0, .one (.dat (.sl 2 (l.map encSeen))))] []) l.length _
    (Ent.weak (ids := []) (by simp) rfl (by simp) ?_ ?_ ?_) ⟨0, by omega, by omega, rfl, rfl⟩ ?_
  · simp [objsLe, St.obj, find, AObj.renF]
  · simp [envLe, find, AV.renF, AV.renF1, Leaf.renF]
  · simp [LowAll, AV.Low, AV.Low1, Leaf.Low, AObj.Low]
  rintro n s ⟨i, hi, rfl, ht, rfl⟩ K hK
  refine evl ?_
  refine ⟨fun h => ?_, fun h => ?_⟩
  · have hlt : i < l.length := by simpa using h
    have hlt' : i < l'.length := by omega
    refine ⟨⟨by omega, by omega⟩, hlt, ⟨by omega, by omega⟩, hlt', ?_⟩
    simp only [getD_map hlt, getD_map hlt', encSeen, List.map_cons, List.map_nil, List.take_succ_cons, List.take_zero]
    first
      | refine CCallK_intro e140 (fun _ => ⟨trivial, c140 l[i] l'[i]⟩) rfl rfl ?_
      | refine Or.inl (CCallK_intro e140 (fun _ => ⟨trivial, c140 l[i] l'[i]⟩) rfl rfl ?_)
    simp (maxSteps := 2000000) only [go_sem, ↓reduceIte, reduceCtorEq, Nat.reduceAdd, Nat.reduceMul, Nat.reduceSub, Nat.reduceLT, Nat.reduceLeDiff, Nat.reduceEqDiff, Int.reduceToNat, Int.reduceLT, Int.reduceLE, Int.reduceNeg, wrap_succ hlt hl]
    refine ⟨fun h => ?_, fun h => ?_⟩
    · apply hK
      refine evl ?_
      refine Fin.nt Tryz.results115 [] ?_ ?_ ?_ <;> try trivial
      first | exact True.intro | (refine rsl ?_; try exact True.intro)
      symm; rw [decide_eq_false_iff_not]
      rintro rfl; simp at h
    · apply hK
      have he : l[i] = l'[i] := by simpa using h
      refine ⟨l.length - (i + 1), _, by omega, Ent.weak (ids := []) (by simp) rfl (by simp) ?_ ?_ ?_, i + 1, by omega, rfl, ?_, rfl⟩
      · simp [objsLe, St.obj, find, AObj.renF]
      · simp [envLe, find, AV.renF, AV.renF1, Leaf.renF]
      · simp [LowAll, AV.Low, AV.Low1, Leaf.Low, AObj.Low]
      · rw [List.take_succ_eq_append_getElem hlt, List.take_succ_eq_append_getElem hlt', ht, he]
  · have hge : i = l.length := by simp at h; omega
    subst hge
    apply hK
    refine evl ?_
    refine Fin.nt Tryz.results115 [] ?_ ?_ ?_ <;> try trivial
    first | exact True.intro | (refine rsl ?_; try exact True.intro)
    symm; rw [decide_eq_true_iff]
    rw [List.take_of_length_le (Nat.le_refl _), List.take_of_length_le (by omega)] at ht
    exact ht
def markSeen (k : Int) : Seen := ⟨k, k + 1⟩
def markSeens (k : Int) (n : Nat) : List (List D) := (List.range n).map fun i => encSeen (markSeen (k + 2 * (i : Nat)))
theorem markSeens_length (k : Int) (n : Nat) : (markSeens k n).length = n := by simp [markSeens]
structure Write where
  Key : Int
  Del : Bool
  Val : Int
  deriving DecidableEq
def encWrite (x : Write) : List D := [.int .i64 x.Key, .bool x.Del, .int .i64 x.Val]
def Write.wf (x : Write) : Prop := (Lit.int .i64 x.Key).wf = true ∧ (Lit.int .i64 x.Val).wf = true ∧ True
theorem Write.eq_iff (x y : Write) : x = y ↔ x.Key = y.Key ∧ x.Del = y.Del ∧ x.Val = y.Val := by cases x; cases y; simp
theorem c134 (x : Write) : Ctr Tryz.prog 134 [.agg ((encWrite x).map .dat)] [] (.agg ((encWrite x).map .dat)) [] := by
  simp only [encWrite, List.map_cons, List.map_nil]
  refine Ctr.bd mixed Tryz.func134 rfl ?_
  refine evl ?_
  repeat' first
    | ((with_reducible show Abs.Fin _ _ _ _ _ _); refine Fin.nt Tryz.results134 [] ?_ ?_ ?_ <;> try trivial)
    | with_reducible intro h
    | ((with_reducible show _ ∧ _); apply And.intro)
  all_goals first | rfl | simp
theorem c104 (l : List Write) (hl : l.length ≤ 1048576) : Ctr Tryz.prog 104 [.one (.dat (.sl 3 (l.map encWrite)))] [] (.one (.own 0)) [.vec 3 true (l.map encWrite)] := by
  refine Ctr.bd mixed Tryz.func104 rfl ?_
  refine evl ?_
  refine ⟨by omega, ?_⟩
  refine LoopK_intro (fun n s => ∃ i : Nat, i ≤ l.length ∧ n = l.length - i ∧ s = mkSt [(4, .one (.dat (.int .i64 i))), (3, .one (.own 0)), (0, .one (.dat (.sl 3 (l.map encWrite))))]
      [.vec 3 true ((l.take i).map encWrite ++ List.replicate (l.length - i) [.int .i64 0, .bool false, .int .i64 0])]) l.length _
    (Ent.weak (ids := [0]) (by simp) rfl (by simp) ?_ ?_ ?_) ⟨0, by omega, by omega, rfl⟩ ?_
  · simp [objsLe, St.obj, find, AObj.renF]
  · simp [envLe, find, AV.renF, AV.renF1, Leaf.renF]
  · simp [LowAll, AV.Low, AV.Low1, Leaf.Low, AObj.Low]
  rintro n s ⟨i, hi, rfl, rfl⟩ K hK
  refine evl ?_
  refine ⟨fun h => ?_, fun h => ?_⟩
  · have hlt : i < l.length := by simpa using h
    refine ⟨⟨by omega, by omega⟩, hlt, ?_⟩
    simp only [getD_map hlt, encWrite, List.map_cons, List.map_nil, List.take_succ_cons, List.take_zero]
    refine CallK_pure e134 (c134 l[i]) rfl ?_
    simp (maxSteps := 2000000) only [go_sem, ↓reduceIte, reduceCtorEq, Nat.reduceAdd, Nat.reduceMul, Nat.reduceSub, Nat.reduceLT, Nat.reduceLeDiff, Nat.reduceEqDiff, Int.reduceToNat, Int.reduceLT, Int.reduceLE, Int.reduceNeg, encWrite, D.flat, wrap_succ hlt (le20 hl)]
    refine ⟨by simp; omega, by simp; omega, ?_⟩
    apply hK
    refine ⟨l.length - (i + 1), _, by omega, Ent.weak (ids := [0]) (by simp) rfl (by simp) ?_ ?_ ?_, i + 1, by omega, rfl, rfl⟩
    · simp only [objsLe, St.obj, find, AObj.renF, if_true, Option.getD_some, List.getD_cons_zero, and_true]
      rw [← take_set encWrite l _ hlt]
      exact ⟨Nat.zero_lt_one, Or.inr rfl⟩
    · simp [envLe, find, AV.renF, AV.renF1, Leaf.renF]
    · simp [LowAll, AV.Low, AV.Low1, Leaf.Low, AObj.Low]
  · have hge : i = l.length := by simp at h; omega
    subst hge
    apply hK
    refine evl ?_
    refine Fin.nt Tryz.results104 [0] ?_ ?_ ?_ <;> try trivial
    all_goals simp [objsLe, St.obj, find, AObj.renF]
theorem c92 (rows : List (List D)) (left : Int) (h0 : 0 ≤ left) (h1 : left ≤ 1048576) (hl : rows.length ≤ maxLen) : Ctr Tryz.prog 92 [.one (.dat (.sl 3 rows)), .one (.dat (.int .i64 left))] [] (.one (.dat (.int .i64 (szL left rows.length)))) [] := by
  have hw := szL_wrap h0 h1 hl
  refine Ctr.bd mixed Tryz.func92 rfl ?_
  simp (maxSteps := 2000000) only [go_sem, ↓reduceIte, reduceCtorEq, Nat.reduceAdd, Nat.reduceMul, Nat.reduceSub, Nat.reduceLT, Nat.reduceLeDiff, Nat.reduceEqDiff, Int.reduceToNat, Int.reduceLT, Int.reduceLE, Int.reduceNeg, hw]
  repeat' first
    | ((with_reducible show Abs.Fin _ _ _ _ _ _); refine Fin.nt Tryz.results92 [] ?_ ?_ ?_ <;> try trivial)
    | with_reducible intro h
    | ((with_reducible show _ ∧ _); apply And.intro)
  all_goals try (first | exact True.intro | (refine rsl ?_; try exact True.intro))
  all_goals simp_all [szL]
  all_goals omega
theorem c141 (x y : Write) : Ctr Tryz.prog 141 [.agg ((encWrite x).map .dat), .agg ((encWrite y).map .dat)] [] (.one (.dat (.bool (decide (x = y))))) [] := by
  simp only [encWrite, List.map_cons, List.map_nil]
  refine Ctr.bd mixed Tryz.func141 rfl ?_
  refine evl ?_
  repeat' first
    | ((with_reducible show Abs.Fin _ _ _ _ _ _); refine Fin.nt Tryz.results141 [] ?_ ?_ ?_ <;> try trivial)
    | with_reducible intro h
    | ((with_reducible show _ ∧ _); apply And.intro)
  all_goals try (first | exact True.intro | (refine rsl ?_; try exact True.intro))
  all_goals simp_all [Write.eq_iff]
theorem c116 (l l' : List Write) (hl : l.length ≤ maxLen) (hl' : l'.length ≤ maxLen) : Ctr Tryz.prog 116 [.one (.dat (.sl 3 (l.map encWrite))), .one (.dat (.sl 3 (l'.map encWrite)))] [] (.one (.dat (.bool (decide (l = l'))))) [] := by
  refine Ctr.bd mixed Tryz.func116 rfl ?_
  refine evl ?_
  refine ⟨fun h => ?_, fun h => ?_⟩
  · have hne : l.length ≠ l'.length := by simp at h; omega
    refine Fin.nt Tryz.results116 [] ?_ ?_ ?_ <;> try trivial
    first | exact True.intro | (refine rsl ?_; try exact True.intro)
    symm; rw [decide_eq_false_iff_not]
    intro e; exact hne (by rw [e])
  have hlen : l.length = l'.length := by simp at h; omega
  refine LoopK_intro (fun n s => ∃ i : Nat, i ≤ l.length ∧ n = l.length - i ∧ l.take i = l'.take i ∧ s = mkSt [(5, .one (.dat (.int .i64 i))), (1, .one (.dat (.sl 3 (l'.map encWrite)))), (0, .one (.dat (.sl 3 (l.map encWrite))))] []) l.length _
    (Ent.weak (ids := []) (by simp) rfl (by simp) ?_ ?_ ?_) ⟨0, by omega, by omega, rfl, rfl⟩ ?_
  · simp [objsLe, St.obj, find, AObj.renF]
  · simp [envLe, find, AV.renF, AV.renF1, Leaf.renF]
  · simp [LowAll, AV.Low, AV.Low1, Leaf.Low, AObj.Low]
  rintro n s ⟨i, hi, rfl, ht, rfl⟩ K hK
  refine evl ?_
  refine ⟨fun h => ?_, fun h => ?_⟩
  · have hlt : i < l.length := by simpa using h
    have hlt' : i < l'.length := by omega
    refine ⟨⟨by omega, by omega⟩, hlt, ⟨by omega, by omega⟩, hlt', ?_⟩
    simp only [getD_map hlt, getD_map hlt', encWrite, List.map_cons, List.map_nil, List.take_succ_cons, List.take_zero]
    first
      | refine CCallK_intro e141 (fun _ => ⟨trivial, c141 l[i] l'[i]⟩) rfl rfl ?_
      | refine Or.inl (CCallK_intro e141 (fun _ => ⟨trivial, c141 l[i] l'[i]⟩) rfl rfl ?_)
    simp (maxSteps := 2000000) only [go_sem, ↓reduceIte, reduceCtorEq, Nat.reduceAdd, Nat.reduceMul, Nat.reduceSub, Nat.reduceLT, Nat.reduceLeDiff, Nat.reduceEqDiff, Int.reduceToNat, Int.reduceLT, Int.reduceLE, Int.reduceNeg, wrap_succ hlt hl]
    refine ⟨fun h => ?_, fun h => ?_⟩
    · apply hK
      refine evl ?_
      refine Fin.nt Tryz.results116 [] ?_ ?_ ?_ <;> try trivial
      first | exact True.intro | (refine rsl ?_; try exact True.intro)
      symm; rw [decide_eq_false_iff_not]
      rintro rfl; simp at h
    · apply hK
      have he : l[i] = l'[i] := by simpa using h
      refine ⟨l.length - (i + 1), _, by omega, Ent.weak (ids := []) (by simp) rfl (by simp) ?_ ?_ ?_, i + 1, by omega, rfl, ?_, rfl⟩
      · simp [objsLe, St.obj, find, AObj.renF]
      · simp [envLe, find, AV.renF, AV.renF1, Leaf.renF]
      · simp [LowAll, AV.Low, AV.Low1, Leaf.Low, AObj.Low]
      · rw [List.take_succ_eq_append_getElem hlt, List.take_succ_eq_append_getElem hlt', ht, he]
  · have hge : i = l.length := by simp at h; omega
    subst hge
    apply hK
    refine evl ?_
    refine Fin.nt Tryz.results116 [] ?_ ?_ ?_ <;> try trivial
    first | exact True.intro | (refine rsl ?_; try exact True.intro)
    symm; rw [decide_eq_true_iff]
    rw [List.take_of_length_le (Nat.le_refl _), List.take_of_length_le (by omega)] at ht
    exact ht
def markWrite (k : Int) : Write := ⟨k, (k + 1).tmod 3 == 0, k + 1 + 1⟩
def markWrites (k : Int) (n : Nat) : List (List D) := (List.range n).map fun i => encWrite (markWrite (k + 3 * (i : Nat)))
theorem markWrites_length (k : Int) (n : Nat) : (markWrites k n).length = n := by simp [markWrites]
structure Cmd where
  Kind : Int
  Key : Int
  Val : Int
  deriving DecidableEq
def encCmd (x : Cmd) : List D := [.int .i64 x.Kind, .int .i64 x.Key, .int .i64 x.Val]
def Cmd.wf (x : Cmd) : Prop := (Lit.int .i64 x.Kind).wf = true ∧ (Lit.int .i64 x.Key).wf = true ∧ (Lit.int .i64 x.Val).wf = true ∧ True
theorem Cmd.eq_iff (x y : Cmd) : x = y ↔ x.Kind = y.Kind ∧ x.Key = y.Key ∧ x.Val = y.Val := by cases x; cases y; simp
theorem c136 (x : Cmd) : Ctr Tryz.prog 136 [.agg ((encCmd x).map .dat)] [] (.agg ((encCmd x).map .dat)) [] := by
  simp only [encCmd, List.map_cons, List.map_nil]
  refine Ctr.bd mixed Tryz.func136 rfl ?_
  refine evl ?_
  repeat' first
    | ((with_reducible show Abs.Fin _ _ _ _ _ _); refine Fin.nt Tryz.results136 [] ?_ ?_ ?_ <;> try trivial)
    | with_reducible intro h
    | ((with_reducible show _ ∧ _); apply And.intro)
  all_goals first | rfl | simp
theorem c107 (l : List Cmd) (hl : l.length ≤ 1048576) : Ctr Tryz.prog 107 [.one (.dat (.sl 3 (l.map encCmd)))] [] (.one (.own 0)) [.vec 3 true (l.map encCmd)] := by
  refine Ctr.bd mixed Tryz.func107 rfl ?_
  refine evl ?_
  refine ⟨by omega, ?_⟩
  refine LoopK_intro (fun n s => ∃ i : Nat, i ≤ l.length ∧ n = l.length - i ∧ s = mkSt [(4, .one (.dat (.int .i64 i))), (3, .one (.own 0)), (0, .one (.dat (.sl 3 (l.map encCmd))))]
      [.vec 3 true ((l.take i).map encCmd ++ List.replicate (l.length - i) [.int .i64 0, .int .i64 0, .int .i64 0])]) l.length _
    (Ent.weak (ids := [0]) (by simp) rfl (by simp) ?_ ?_ ?_) ⟨0, by omega, by omega, rfl⟩ ?_
  · simp [objsLe, St.obj, find, AObj.renF]
  · simp [envLe, find, AV.renF, AV.renF1, Leaf.renF]
  · simp [LowAll, AV.Low, AV.Low1, Leaf.Low, AObj.Low]
  rintro n s ⟨i, hi, rfl, rfl⟩ K hK
  refine evl ?_
  refine ⟨fun h => ?_, fun h => ?_⟩
  · have hlt : i < l.length := by simpa using h
    refine ⟨⟨by omega, by omega⟩, hlt, ?_⟩
    simp only [getD_map hlt, encCmd, List.map_cons, List.map_nil, List.take_succ_cons, List.take_zero]
    refine CallK_pure e136 (c136 l[i]) rfl ?_
    simp (maxSteps := 2000000) only [go_sem, ↓reduceIte, reduceCtorEq, Nat.reduceAdd, Nat.reduceMul, Nat.reduceSub, Nat.reduceLT, Nat.reduceLeDiff, Nat.reduceEqDiff, Int.reduceToNat, Int.reduceLT, Int.reduceLE, Int.reduceNeg, encCmd, D.flat, wrap_succ hlt (le20 hl)]
    refine ⟨by simp; omega, by simp; omega, ?_⟩
    apply hK
    refine ⟨l.length - (i + 1), _, by omega, Ent.weak (ids := [0]) (by simp) rfl (by simp) ?_ ?_ ?_, i + 1, by omega, rfl, rfl⟩
    · simp only [objsLe, St.obj, find, AObj.renF, if_true, Option.getD_some, List.getD_cons_zero, and_true]
      rw [← take_set encCmd l _ hlt]
      exact ⟨Nat.zero_lt_one, Or.inr rfl⟩
    · simp [envLe, find, AV.renF, AV.renF1, Leaf.renF]
    · simp [LowAll, AV.Low, AV.Low1, Leaf.Low, AObj.Low]
  · have hge : i = l.length := by simp at h; omega
    subst hge
    apply hK
    refine evl ?_
    refine Fin.nt Tryz.results107 [0] ?_ ?_ ?_ <;> try trivial
    all_goals simp [objsLe, St.obj, find, AObj.renF]
theorem c95 (rows : List (List D)) (left : Int) (h0 : 0 ≤ left) (h1 : left ≤ 1048576) (hl : rows.length ≤ maxLen) : Ctr Tryz.prog 95 [.one (.dat (.sl 3 rows)), .one (.dat (.int .i64 left))] [] (.one (.dat (.int .i64 (szL left rows.length)))) [] := by
  have hw := szL_wrap h0 h1 hl
  refine Ctr.bd mixed Tryz.func95 rfl ?_
  simp (maxSteps := 2000000) only [go_sem, ↓reduceIte, reduceCtorEq, Nat.reduceAdd, Nat.reduceMul, Nat.reduceSub, Nat.reduceLT, Nat.reduceLeDiff, Nat.reduceEqDiff, Int.reduceToNat, Int.reduceLT, Int.reduceLE, Int.reduceNeg, hw]
  repeat' first
    | ((with_reducible show Abs.Fin _ _ _ _ _ _); refine Fin.nt Tryz.results95 [] ?_ ?_ ?_ <;> try trivial)
    | with_reducible intro h
    | ((with_reducible show _ ∧ _); apply And.intro)
  all_goals try (first | exact True.intro | (refine rsl ?_; try exact True.intro))
  all_goals simp_all [szL]
  all_goals omega
theorem c143 (x y : Cmd) : Ctr Tryz.prog 143 [.agg ((encCmd x).map .dat), .agg ((encCmd y).map .dat)] [] (.one (.dat (.bool (decide (x = y))))) [] := by
  simp only [encCmd, List.map_cons, List.map_nil]
  refine Ctr.bd mixed Tryz.func143 rfl ?_
  refine evl ?_
  repeat' first
    | ((with_reducible show Abs.Fin _ _ _ _ _ _); refine Fin.nt Tryz.results143 [] ?_ ?_ ?_ <;> try trivial)
    | with_reducible intro h
    | ((with_reducible show _ ∧ _); apply And.intro)
  all_goals try (first | exact True.intro | (refine rsl ?_; try exact True.intro))
  all_goals simp_all [Cmd.eq_iff]
theorem c119 (l l' : List Cmd) (hl : l.length ≤ maxLen) (hl' : l'.length ≤ maxLen) : Ctr Tryz.prog 119 [.one (.dat (.sl 3 (l.map encCmd))), .one (.dat (.sl 3 (l'.map encCmd)))] [] (.one (.dat (.bool (decide (l = l'))))) [] := by
  refine Ctr.bd mixed Tryz.func119 rfl ?_
  refine evl ?_
  refine ⟨fun h => ?_, fun h => ?_⟩
  · have hne : l.length ≠ l'.length := by simp at h; omega
    refine Fin.nt Tryz.results119 [] ?_ ?_ ?_ <;> try trivial
    first | exact True.intro | (refine rsl ?_; try exact True.intro)
    symm; rw [decide_eq_false_iff_not]
    intro e; exact hne (by rw [e])
  have hlen : l.length = l'.length := by simp at h; omega
  refine LoopK_intro (fun n s => ∃ i : Nat, i ≤ l.length ∧ n = l.length - i ∧ l.take i = l'.take i ∧ s = mkSt [(5, .one (.dat (.int .i64 i))), (1, .one (.dat (.sl 3 (l'.map encCmd)))), (0, .one (.dat (.sl 3 (l.map encCmd))))] []) l.length _
    (Ent.weak (ids := []) (by simp) rfl (by simp) ?_ ?_ ?_) ⟨0, by omega, by omega, rfl, rfl⟩ ?_
  · simp [objsLe, St.obj, find, AObj.renF]
  · simp [envLe, find, AV.renF, AV.renF1, Leaf.renF]
  · simp [LowAll, AV.Low, AV.Low1, Leaf.Low, AObj.Low]
  rintro n s ⟨i, hi, rfl, ht, rfl⟩ K hK
  refine evl ?_
  refine ⟨fun h => ?_, fun h => ?_⟩
  · have hlt : i < l.length := by simpa using h
    have hlt' : i < l'.length := by omega
    refine ⟨⟨by omega, by omega⟩, hlt, ⟨by omega, by omega⟩, hlt', ?_⟩
    simp only [getD_map hlt, getD_map hlt', encCmd, List.map_cons, List.map_nil, List.take_succ_cons, List.take_zero]
    first
      | refine CCallK_intro e143 (fun _ => ⟨trivial, c143 l[i] l'[i]⟩) rfl rfl ?_
      | refine Or.inl (CCallK_intro e143 (fun _ => ⟨trivial, c143 l[i] l'[i]⟩) rfl rfl ?_)
    simp (maxSteps := 2000000) only [go_sem, ↓reduceIte, reduceCtorEq, Nat.reduceAdd, Nat.reduceMul, Nat.reduceSub, Nat.reduceLT, Nat.reduceLeDiff, Nat.reduceEqDiff, Int.reduceToNat, Int.reduceLT, Int.reduceLE, Int.reduceNeg, wrap_succ hlt hl]
    refine ⟨fun h => ?_, fun h => ?_⟩
    · apply hK
      refine evl ?_
      refine Fin.nt Tryz.results119 [] ?_ ?_ ?_ <;> try trivial
      first | exact True.intro | (refine rsl ?_; try exact True.intro)
      symm; rw [decide_eq_false_iff_not]
      rintro rfl; simp at h
    · apply hK
      have he : l[i] = l'[i] := by simpa using h
      refine ⟨l.length - (i + 1), _, by omega, Ent.weak (ids := []) (by simp) rfl (by simp) ?_ ?_ ?_, i + 1, by omega, rfl, ?_, rfl⟩
      · simp [objsLe, St.obj, find, AObj.renF]
      · simp [envLe, find, AV.renF, AV.renF1, Leaf.renF]
      · simp [LowAll, AV.Low, AV.Low1, Leaf.Low, AObj.Low]
      · rw [List.take_succ_eq_append_getElem hlt, List.take_succ_eq_append_getElem hlt', ht, he]
  · have hge : i = l.length := by simp at h; omega
    subst hge
    apply hK
    refine evl ?_
    refine Fin.nt Tryz.results119 [] ?_ ?_ ?_ <;> try trivial
    first | exact True.intro | (refine rsl ?_; try exact True.intro)
    symm; rw [decide_eq_true_iff]
    rw [List.take_of_length_le (Nat.le_refl _), List.take_of_length_le (by omega)] at ht
    exact ht
def markCmd (k : Int) : Cmd := ⟨k, k + 1, k + 1 + 1⟩
def markCmds (k : Int) (n : Nat) : List (List D) := (List.range n).map fun i => encCmd (markCmd (k + 3 * (i : Nat)))
theorem markCmds_length (k : Int) (n : Nat) : (markCmds k n).length = n := by simp [markCmds]
structure Bkt where
  Head : Int
  Ver : Int
  Lock : Int
  deriving DecidableEq
def encBkt (x : Bkt) : List D := [.int .i64 x.Head, .int .i64 x.Ver, .int .i64 x.Lock]
def Bkt.wf (x : Bkt) : Prop := (Lit.int .i64 x.Head).wf = true ∧ (Lit.int .i64 x.Ver).wf = true ∧ (Lit.int .i64 x.Lock).wf = true ∧ True
theorem Bkt.eq_iff (x y : Bkt) : x = y ↔ x.Head = y.Head ∧ x.Ver = y.Ver ∧ x.Lock = y.Lock := by cases x; cases y; simp
theorem c58 (x : Bkt) : Ctr Tryz.prog 58 [.agg ((encBkt x).map .dat)] [] (.agg ((encBkt x).map .dat)) [] := by
  simp only [encBkt, List.map_cons, List.map_nil]
  refine Ctr.bd mixed Tryz.func58 rfl ?_
  refine evl ?_
  repeat' first
    | ((with_reducible show Abs.Fin _ _ _ _ _ _); refine Fin.nt Tryz.results58 [] ?_ ?_ ?_ <;> try trivial)
    | with_reducible intro h
    | ((with_reducible show _ ∧ _); apply And.intro)
  all_goals first | rfl | simp
theorem c18 (l : List Bkt) (hl : l.length ≤ 1048576) : Ctr Tryz.prog 18 [.one (.dat (.sl 3 (l.map encBkt)))] [] (.one (.own 0)) [.vec 3 true (l.map encBkt)] := by
  refine Ctr.bd mixed Tryz.func18 rfl ?_
  refine evl ?_
  refine ⟨by omega, ?_⟩
  refine LoopK_intro (fun n s => ∃ i : Nat, i ≤ l.length ∧ n = l.length - i ∧ s = mkSt [(4, .one (.dat (.int .i64 i))), (3, .one (.own 0)), (0, .one (.dat (.sl 3 (l.map encBkt))))]
      [.vec 3 true ((l.take i).map encBkt ++ List.replicate (l.length - i) [.int .i64 0, .int .i64 0, .int .i64 0])]) l.length _
    (Ent.weak (ids := [0]) (by simp) rfl (by simp) ?_ ?_ ?_) ⟨0, by omega, by omega, rfl⟩ ?_
  · simp [objsLe, St.obj, find, AObj.renF]
  · simp [envLe, find, AV.renF, AV.renF1, Leaf.renF]
  · simp [LowAll, AV.Low, AV.Low1, Leaf.Low, AObj.Low]
  rintro n s ⟨i, hi, rfl, rfl⟩ K hK
  refine evl ?_
  refine ⟨fun h => ?_, fun h => ?_⟩
  · have hlt : i < l.length := by simpa using h
    refine ⟨⟨by omega, by omega⟩, hlt, ?_⟩
    simp only [getD_map hlt, encBkt, List.map_cons, List.map_nil, List.take_succ_cons, List.take_zero]
    refine CallK_pure e58 (c58 l[i]) rfl ?_
    simp (maxSteps := 2000000) only [go_sem, ↓reduceIte, reduceCtorEq, Nat.reduceAdd, Nat.reduceMul, Nat.reduceSub, Nat.reduceLT, Nat.reduceLeDiff, Nat.reduceEqDiff, Int.reduceToNat, Int.reduceLT, Int.reduceLE, Int.reduceNeg, encBkt, D.flat, wrap_succ hlt (le20 hl)]
    refine ⟨by simp; omega, by simp; omega, ?_⟩
    apply hK
    refine ⟨l.length - (i + 1), _, by omega, Ent.weak (ids := [0]) (by simp) rfl (by simp) ?_ ?_ ?_, i + 1, by omega, rfl, rfl⟩
    · simp only [objsLe, St.obj, find, AObj.renF, if_true, Option.getD_some, List.getD_cons_zero, and_true]
      rw [← take_set encBkt l _ hlt]
      exact ⟨Nat.zero_lt_one, Or.inr rfl⟩
    · simp [envLe, find, AV.renF, AV.renF1, Leaf.renF]
    · simp [LowAll, AV.Low, AV.Low1, Leaf.Low, AObj.Low]
  · have hge : i = l.length := by simp at h; omega
    subst hge
    apply hK
    refine evl ?_
    refine Fin.nt Tryz.results18 [0] ?_ ?_ ?_ <;> try trivial
    all_goals simp [objsLe, St.obj, find, AObj.renF]
theorem c13 (rows : List (List D)) (left : Int) (h0 : 0 ≤ left) (h1 : left ≤ 1048576) (hl : rows.length ≤ maxLen) : Ctr Tryz.prog 13 [.one (.dat (.sl 3 rows)), .one (.dat (.int .i64 left))] [] (.one (.dat (.int .i64 (szL left rows.length)))) [] := by
  have hw := szL_wrap h0 h1 hl
  refine Ctr.bd mixed Tryz.func13 rfl ?_
  simp (maxSteps := 2000000) only [go_sem, ↓reduceIte, reduceCtorEq, Nat.reduceAdd, Nat.reduceMul, Nat.reduceSub, Nat.reduceLT, Nat.reduceLeDiff, Nat.reduceEqDiff, Int.reduceToNat, Int.reduceLT, Int.reduceLE, Int.reduceNeg, hw]
  repeat' first
    | ((with_reducible show Abs.Fin _ _ _ _ _ _); refine Fin.nt Tryz.results13 [] ?_ ?_ ?_ <;> try trivial)
    | with_reducible intro h
    | ((with_reducible show _ ∧ _); apply And.intro)
  all_goals try (first | exact True.intro | (refine rsl ?_; try exact True.intro))
  all_goals simp_all [szL]
  all_goals omega
theorem c68 (x y : Bkt) : Ctr Tryz.prog 68 [.agg ((encBkt x).map .dat), .agg ((encBkt y).map .dat)] [] (.one (.dat (.bool (decide (x = y))))) [] := by
  simp only [encBkt, List.map_cons, List.map_nil]
  refine Ctr.bd mixed Tryz.func68 rfl ?_
  refine evl ?_
  repeat' first
    | ((with_reducible show Abs.Fin _ _ _ _ _ _); refine Fin.nt Tryz.results68 [] ?_ ?_ ?_ <;> try trivial)
    | with_reducible intro h
    | ((with_reducible show _ ∧ _); apply And.intro)
  all_goals try (first | exact True.intro | (refine rsl ?_; try exact True.intro))
  all_goals simp_all [Bkt.eq_iff]
theorem c27 (l l' : List Bkt) (hl : l.length ≤ maxLen) (hl' : l'.length ≤ maxLen) : Ctr Tryz.prog 27 [.one (.dat (.sl 3 (l.map encBkt))), .one (.dat (.sl 3 (l'.map encBkt)))] [] (.one (.dat (.bool (decide (l = l'))))) [] := by
  refine Ctr.bd mixed Tryz.func27 rfl ?_
  refine evl ?_
  refine ⟨fun h => ?_, fun h => ?_⟩
  · have hne : l.length ≠ l'.length := by simp at h; omega
    refine Fin.nt Tryz.results27 [] ?_ ?_ ?_ <;> try trivial
    first | exact True.intro | (refine rsl ?_; try exact True.intro)
    symm; rw [decide_eq_false_iff_not]
    intro e; exact hne (by rw [e])
  have hlen : l.length = l'.length := by simp at h; omega
  refine LoopK_intro (fun n s => ∃ i : Nat, i ≤ l.length ∧ n = l.length - i ∧ l.take i = l'.take i ∧ s = mkSt [(5, .one (.dat (.int .i64 i))), (1, .one (.dat (.sl 3 (l'.map encBkt)))), (0, .one (.dat (.sl 3 (l.map encBkt))))] []) l.length _
    (Ent.weak (ids := []) (by simp) rfl (by simp) ?_ ?_ ?_) ⟨0, by omega, by omega, rfl, rfl⟩ ?_
  · simp [objsLe, St.obj, find, AObj.renF]
  · simp [envLe, find, AV.renF, AV.renF1, Leaf.renF]
  · simp [LowAll, AV.Low, AV.Low1, Leaf.Low, AObj.Low]
  rintro n s ⟨i, hi, rfl, ht, rfl⟩ K hK
  refine evl ?_
  refine ⟨fun h => ?_, fun h => ?_⟩
  · have hlt : i < l.length := by simpa using h
    have hlt' : i < l'.length := by omega
    refine ⟨⟨by omega, by omega⟩, hlt, ⟨by omega, by omega⟩, hlt', ?_⟩
    simp only [getD_map hlt, getD_map hlt', encBkt, List.map_cons, List.map_nil, List.take_succ_cons, List.take_zero]
    first
      | refine CCallK_intro e68 (fun _ => ⟨trivial, c68 l[i] l'[i]⟩) rfl rfl ?_
      | refine Or.inl (CCallK_intro e68 (fun _ => ⟨trivial, c68 l[i] l'[i]⟩) rfl rfl ?_)
    simp (maxSteps := 2000000) only [go_sem, ↓reduceIte, reduceCtorEq, Nat.reduceAdd, Nat.reduceMul, Nat.reduceSub, Nat.reduceLT, Nat.reduceLeDiff, Nat.reduceEqDiff, Int.reduceToNat, Int.reduceLT, Int.reduceLE, Int.reduceNeg, wrap_succ hlt hl]
    refine ⟨fun h => ?_, fun h => ?_⟩
    · apply hK
      refine evl ?_
      refine Fin.nt Tryz.results27 [] ?_ ?_ ?_ <;> try trivial
      first | exact True.intro | (refine rsl ?_; try exact True.intro)
      symm; rw [decide_eq_false_iff_not]
      rintro rfl; simp at h
    · apply hK
      have he : l[i] = l'[i] := by simpa using h
      refine ⟨l.length - (i + 1), _, by omega, Ent.weak (ids := []) (by simp) rfl (by simp) ?_ ?_ ?_, i + 1, by omega, rfl, ?_, rfl⟩
      · simp [objsLe, St.obj, find, AObj.renF]
      · simp [envLe, find, AV.renF, AV.renF1, Leaf.renF]
      · simp [LowAll, AV.Low, AV.Low1, Leaf.Low, AObj.Low]
      · rw [List.take_succ_eq_append_getElem hlt, List.take_succ_eq_append_getElem hlt', ht, he]
  · have hge : i = l.length := by simp at h; omega
    subst hge
    apply hK
    refine evl ?_
    refine Fin.nt Tryz.results27 [] ?_ ?_ ?_ <;> try trivial
    first | exact True.intro | (refine rsl ?_; try exact True.intro)
    symm; rw [decide_eq_true_iff]
    rw [List.take_of_length_le (Nat.le_refl _), List.take_of_length_le (by omega)] at ht
    exact ht
def markBkt (k : Int) : Bkt := ⟨k, k + 1, k + 1 + 1⟩
def markBkts (k : Int) (n : Nat) : List (List D) := (List.range n).map fun i => encBkt (markBkt (k + 3 * (i : Nat)))
theorem markBkts_length (k : Int) (n : Nat) : (markBkts k n).length = n := by simp [markBkts]
structure Node where
  Key : Int
  Val : Int
  Next : Int
  deriving DecidableEq
def encNode (x : Node) : List D := [.int .i64 x.Key, .int .i64 x.Val, .int .i64 x.Next]
def Node.wf (x : Node) : Prop := (Lit.int .i64 x.Key).wf = true ∧ (Lit.int .i64 x.Val).wf = true ∧ (Lit.int .i64 x.Next).wf = true ∧ True
theorem Node.eq_iff (x y : Node) : x = y ↔ x.Key = y.Key ∧ x.Val = y.Val ∧ x.Next = y.Next := by cases x; cases y; simp
theorem c101 (x : Node) : Ctr Tryz.prog 101 [.agg ((encNode x).map .dat)] [] (.agg ((encNode x).map .dat)) [] := by
  simp only [encNode, List.map_cons, List.map_nil]
  refine Ctr.bd mixed Tryz.func101 rfl ?_
  refine evl ?_
  repeat' first
    | ((with_reducible show Abs.Fin _ _ _ _ _ _); refine Fin.nt Tryz.results101 [] ?_ ?_ ?_ <;> try trivial)
    | with_reducible intro h
    | ((with_reducible show _ ∧ _); apply And.intro)
  all_goals first | rfl | simp
theorem c113 (x y : Node) : Ctr Tryz.prog 113 [.agg ((encNode x).map .dat), .agg ((encNode y).map .dat)] [] (.one (.dat (.bool (decide (x = y))))) [] := by
  simp only [encNode, List.map_cons, List.map_nil]
  refine Ctr.bd mixed Tryz.func113 rfl ?_
  refine evl ?_
  repeat' first
    | ((with_reducible show Abs.Fin _ _ _ _ _ _); refine Fin.nt Tryz.results113 [] ?_ ?_ ?_ <;> try trivial)
    | with_reducible intro h
    | ((with_reducible show _ ∧ _); apply And.intro)
  all_goals try (first | exact True.intro | (refine rsl ?_; try exact True.intro))
  all_goals simp_all [Node.eq_iff]
def markNode (k : Int) : Node := ⟨k, k + 1, k + 1 + 1⟩
def markNodes (k : Int) (n : Nat) : List (List D) := (List.range n).map fun i => encNode (markNode (k + 3 * (i : Nat)))
theorem markNodes_length (k : Int) (n : Nat) : (markNodes k n).length = n := by simp [markNodes]
structure LRow where
  Handle : Int
  Epoch : Int
  deriving DecidableEq
def encLRow (x : LRow) : List D := [.int .i64 x.Handle, .int .i64 x.Epoch]
def LRow.wf (x : LRow) : Prop := (Lit.int .i64 x.Handle).wf = true ∧ (Lit.int .i64 x.Epoch).wf = true ∧ True
theorem LRow.eq_iff (x y : LRow) : x = y ↔ x.Handle = y.Handle ∧ x.Epoch = y.Epoch := by cases x; cases y; simp
theorem c149 (x : LRow) : Ctr Tryz.prog 149 [.agg ((encLRow x).map .dat)] [] (.agg ((encLRow x).map .dat)) [] := by
  simp only [encLRow, List.map_cons, List.map_nil]
  refine Ctr.bd mixed Tryz.func149 rfl ?_
  refine evl ?_
  repeat' first
    | ((with_reducible show Abs.Fin _ _ _ _ _ _); refine Fin.nt Tryz.results149 [] ?_ ?_ ?_ <;> try trivial)
    | with_reducible intro h
    | ((with_reducible show _ ∧ _); apply And.intro)
  all_goals first | rfl | simp
theorem c132 (l : List LRow) (hl : l.length ≤ 1048576) : Ctr Tryz.prog 132 [.one (.dat (.sl 2 (l.map encLRow)))] [] (.one (.own 0)) [.vec 2 true (l.map encLRow)] := by
  refine Ctr.bd mixed Tryz.func132 rfl ?_
  refine evl ?_
  refine ⟨by omega, ?_⟩
  refine LoopK_intro (fun n s => ∃ i : Nat, i ≤ l.length ∧ n = l.length - i ∧ s = mkSt [(4, .one (.dat (.int .i64 i))), (3, .one (.own 0)), (0, .one (.dat (.sl 2 (l.map encLRow))))]
      [.vec 2 true ((l.take i).map encLRow ++ List.replicate (l.length - i) [.int .i64 0, .int .i64 0])]) l.length _
    (Ent.weak (ids := [0]) (by simp) rfl (by simp) ?_ ?_ ?_) ⟨0, by omega, by omega, rfl⟩ ?_
  · simp [objsLe, St.obj, find, AObj.renF]
  · simp [envLe, find, AV.renF, AV.renF1, Leaf.renF]
  · simp [LowAll, AV.Low, AV.Low1, Leaf.Low, AObj.Low]
  rintro n s ⟨i, hi, rfl, rfl⟩ K hK
  refine evl ?_
  refine ⟨fun h => ?_, fun h => ?_⟩
  · have hlt : i < l.length := by simpa using h
    refine ⟨⟨by omega, by omega⟩, hlt, ?_⟩
    simp only [getD_map hlt, encLRow, List.map_cons, List.map_nil, List.take_succ_cons, List.take_zero]
    refine CallK_pure e149 (c149 l[i]) rfl ?_
    simp (maxSteps := 2000000) only [go_sem, ↓reduceIte, reduceCtorEq, Nat.reduceAdd, Nat.reduceMul, Nat.reduceSub, Nat.reduceLT, Nat.reduceLeDiff, Nat.reduceEqDiff, Int.reduceToNat, Int.reduceLT, Int.reduceLE, Int.reduceNeg, encLRow, D.flat, wrap_succ hlt (le20 hl)]
    refine ⟨by simp; omega, by simp; omega, ?_⟩
    apply hK
    refine ⟨l.length - (i + 1), _, by omega, Ent.weak (ids := [0]) (by simp) rfl (by simp) ?_ ?_ ?_, i + 1, by omega, rfl, rfl⟩
    · simp only [objsLe, St.obj, find, AObj.renF, if_true, Option.getD_some, List.getD_cons_zero, and_true]
      rw [← take_set encLRow l _ hlt]
      exact ⟨Nat.zero_lt_one, Or.inr rfl⟩
    · simp [envLe, find, AV.renF, AV.renF1, Leaf.renF]
    · simp [LowAll, AV.Low, AV.Low1, Leaf.Low, AObj.Low]
  · have hge : i = l.length := by simp at h; omega
    subst hge
    apply hK
    refine evl ?_
    refine Fin.nt Tryz.results132 [0] ?_ ?_ ?_ <;> try trivial
    all_goals simp [objsLe, St.obj, find, AObj.renF]
theorem c129 (rows : List (List D)) (left : Int) (h0 : 0 ≤ left) (h1 : left ≤ 1048576) (hl : rows.length ≤ maxLen) : Ctr Tryz.prog 129 [.one (.dat (.sl 2 rows)), .one (.dat (.int .i64 left))] [] (.one (.dat (.int .i64 (szL left rows.length)))) [] := by
  have hw := szL_wrap h0 h1 hl
  refine Ctr.bd mixed Tryz.func129 rfl ?_
  simp (maxSteps := 2000000) only [go_sem, ↓reduceIte, reduceCtorEq, Nat.reduceAdd, Nat.reduceMul, Nat.reduceSub, Nat.reduceLT, Nat.reduceLeDiff, Nat.reduceEqDiff, Int.reduceToNat, Int.reduceLT, Int.reduceLE, Int.reduceNeg, hw]
  repeat' first
    | ((with_reducible show Abs.Fin _ _ _ _ _ _); refine Fin.nt Tryz.results129 [] ?_ ?_ ?_ <;> try trivial)
    | with_reducible intro h
    | ((with_reducible show _ ∧ _); apply And.intro)
  all_goals try (first | exact True.intro | (refine rsl ?_; try exact True.intro))
  all_goals simp_all [szL]
  all_goals omega
theorem c151 (x y : LRow) : Ctr Tryz.prog 151 [.agg ((encLRow x).map .dat), .agg ((encLRow y).map .dat)] [] (.one (.dat (.bool (decide (x = y))))) [] := by
  simp only [encLRow, List.map_cons, List.map_nil]
  refine Ctr.bd mixed Tryz.func151 rfl ?_
  refine evl ?_
  repeat' first
    | ((with_reducible show Abs.Fin _ _ _ _ _ _); refine Fin.nt Tryz.results151 [] ?_ ?_ ?_ <;> try trivial)
    | with_reducible intro h
    | ((with_reducible show _ ∧ _); apply And.intro)
  all_goals try (first | exact True.intro | (refine rsl ?_; try exact True.intro))
  all_goals simp_all [LRow.eq_iff]
theorem c139 (l l' : List LRow) (hl : l.length ≤ maxLen) (hl' : l'.length ≤ maxLen) : Ctr Tryz.prog 139 [.one (.dat (.sl 2 (l.map encLRow))), .one (.dat (.sl 2 (l'.map encLRow)))] [] (.one (.dat (.bool (decide (l = l'))))) [] := by
  refine Ctr.bd mixed Tryz.func139 rfl ?_
  refine evl ?_
  refine ⟨fun h => ?_, fun h => ?_⟩
  · have hne : l.length ≠ l'.length := by simp at h; omega
    refine Fin.nt Tryz.results139 [] ?_ ?_ ?_ <;> try trivial
    first | exact True.intro | (refine rsl ?_; try exact True.intro)
    symm; rw [decide_eq_false_iff_not]
    intro e; exact hne (by rw [e])
  have hlen : l.length = l'.length := by simp at h; omega
  refine LoopK_intro (fun n s => ∃ i : Nat, i ≤ l.length ∧ n = l.length - i ∧ l.take i = l'.take i ∧ s = mkSt [(5, .one (.dat (.int .i64 i))), (1, .one (.dat (.sl 2 (l'.map encLRow)))), (0, .one (.dat (.sl 2 (l.map encLRow))))] []) l.length _
    (Ent.weak (ids := []) (by simp) rfl (by simp) ?_ ?_ ?_) ⟨0, by omega, by omega, rfl, rfl⟩ ?_
  · simp [objsLe, St.obj, find, AObj.renF]
  · simp [envLe, find, AV.renF, AV.renF1, Leaf.renF]
  · simp [LowAll, AV.Low, AV.Low1, Leaf.Low, AObj.Low]
  rintro n s ⟨i, hi, rfl, ht, rfl⟩ K hK
  refine evl ?_
  refine ⟨fun h => ?_, fun h => ?_⟩
  · have hlt : i < l.length := by simpa using h
    have hlt' : i < l'.length := by omega
    refine ⟨⟨by omega, by omega⟩, hlt, ⟨by omega, by omega⟩, hlt', ?_⟩
    simp only [getD_map hlt, getD_map hlt', encLRow, List.map_cons, List.map_nil, List.take_succ_cons, List.take_zero]
    first
      | refine CCallK_intro e151 (fun _ => ⟨trivial, c151 l[i] l'[i]⟩) rfl rfl ?_
      | refine Or.inl (CCallK_intro e151 (fun _ => ⟨trivial, c151 l[i] l'[i]⟩) rfl rfl ?_)
    simp (maxSteps := 2000000) only [go_sem, ↓reduceIte, reduceCtorEq, Nat.reduceAdd, Nat.reduceMul, Nat.reduceSub, Nat.reduceLT, Nat.reduceLeDiff, Nat.reduceEqDiff, Int.reduceToNat, Int.reduceLT, Int.reduceLE, Int.reduceNeg, wrap_succ hlt hl]
    refine ⟨fun h => ?_, fun h => ?_⟩
    · apply hK
      refine evl ?_
      refine Fin.nt Tryz.results139 [] ?_ ?_ ?_ <;> try trivial
      first | exact True.intro | (refine rsl ?_; try exact True.intro)
      symm; rw [decide_eq_false_iff_not]
      rintro rfl; simp at h
    · apply hK
      have he : l[i] = l'[i] := by simpa using h
      refine ⟨l.length - (i + 1), _, by omega, Ent.weak (ids := []) (by simp) rfl (by simp) ?_ ?_ ?_, i + 1, by omega, rfl, ?_, rfl⟩
      · simp [objsLe, St.obj, find, AObj.renF]
      · simp [envLe, find, AV.renF, AV.renF1, Leaf.renF]
      · simp [LowAll, AV.Low, AV.Low1, Leaf.Low, AObj.Low]
      · rw [List.take_succ_eq_append_getElem hlt, List.take_succ_eq_append_getElem hlt', ht, he]
  · have hge : i = l.length := by simp at h; omega
    subst hge
    apply hK
    refine evl ?_
    refine Fin.nt Tryz.results139 [] ?_ ?_ ?_ <;> try trivial
    first | exact True.intro | (refine rsl ?_; try exact True.intro)
    symm; rw [decide_eq_true_iff]
    rw [List.take_of_length_le (Nat.le_refl _), List.take_of_length_le (by omega)] at ht
    exact ht
def markLRow (k : Int) : LRow := ⟨k, k + 1⟩
def markLRows (k : Int) (n : Nat) : List (List D) := (List.range n).map fun i => encLRow (markLRow (k + 2 * (i : Nat)))
theorem markLRows_length (k : Int) (n : Nat) : (markLRows k n).length = n := by simp [markLRows]
structure Op where
  Kind : Int
  Cell : Int
  Size : Int
  Val : Int
  deriving DecidableEq
def encOp (x : Op) : List D := [.int .i64 x.Kind, .int .i64 x.Cell, .int .i64 x.Size, .int .i64 x.Val]
def Op.wf (x : Op) : Prop := (Lit.int .i64 x.Kind).wf = true ∧ (Lit.int .i64 x.Cell).wf = true ∧ (Lit.int .i64 x.Size).wf = true ∧ (Lit.int .i64 x.Val).wf = true ∧ True
theorem Op.eq_iff (x y : Op) : x = y ↔ x.Kind = y.Kind ∧ x.Cell = y.Cell ∧ x.Size = y.Size ∧ x.Val = y.Val := by cases x; cases y; simp
def markOp (k : Int) : Op := ⟨k, k + 1, k + 1 + 1, k + 1 + 1 + 1⟩
def markOps (k : Int) (n : Nat) : List (List D) := (List.range n).map fun i => encOp (markOp (k + 4 * (i : Nat)))
theorem markOps_length (k : Int) (n : Nat) : (markOps k n).length = n := by simp [markOps]
structure Span where
  From : Int
  To : Int
  deriving DecidableEq
def encSpan (x : Span) : List D := [.int .i64 x.From, .int .i64 x.To]
def Span.wf (x : Span) : Prop := (Lit.int .i64 x.From).wf = true ∧ (Lit.int .i64 x.To).wf = true ∧ True
theorem Span.eq_iff (x y : Span) : x = y ↔ x.From = y.From ∧ x.To = y.To := by cases x; cases y; simp
def markSpan (k : Int) : Span := ⟨k, k + 1⟩
def markSpans (k : Int) (n : Nat) : List (List D) := (List.range n).map fun i => encSpan (markSpan (k + 2 * (i : Nat)))
theorem markSpans_length (k : Int) (n : Nat) : (markSpans k n).length = n := by simp [markSpans]
structure Pin where
  On : Bool
  Epoch : Int
  Marked : Bool
  Seen : Int
  deriving DecidableEq
def encPin (x : Pin) : List D := [.bool x.On, .int .i64 x.Epoch, .bool x.Marked, .int .i64 x.Seen]
def Pin.wf (x : Pin) : Prop := (Lit.int .i64 x.Epoch).wf = true ∧ (Lit.int .i64 x.Seen).wf = true ∧ True
theorem Pin.eq_iff (x y : Pin) : x = y ↔ x.On = y.On ∧ x.Epoch = y.Epoch ∧ x.Marked = y.Marked ∧ x.Seen = y.Seen := by cases x; cases y; simp
theorem c131 (x : Pin) : Ctr Tryz.prog 131 [.agg ((encPin x).map .dat)] [] (.agg ((encPin x).map .dat)) [] := by
  simp only [encPin, List.map_cons, List.map_nil]
  refine Ctr.bd mixed Tryz.func131 rfl ?_
  refine evl ?_
  repeat' first
    | ((with_reducible show Abs.Fin _ _ _ _ _ _); refine Fin.nt Tryz.results131 [] ?_ ?_ ?_ <;> try trivial)
    | with_reducible intro h
    | ((with_reducible show _ ∧ _); apply And.intro)
  all_goals first | rfl | simp
theorem c98 (l : List Pin) (hl : l.length ≤ 1048576) : Ctr Tryz.prog 98 [.one (.dat (.sl 4 (l.map encPin)))] [] (.one (.own 0)) [.vec 4 true (l.map encPin)] := by
  refine Ctr.bd mixed Tryz.func98 rfl ?_
  refine evl ?_
  refine ⟨by omega, ?_⟩
  refine LoopK_intro (fun n s => ∃ i : Nat, i ≤ l.length ∧ n = l.length - i ∧ s = mkSt [(4, .one (.dat (.int .i64 i))), (3, .one (.own 0)), (0, .one (.dat (.sl 4 (l.map encPin))))]
      [.vec 4 true ((l.take i).map encPin ++ List.replicate (l.length - i) [.bool false, .int .i64 0, .bool false, .int .i64 0])]) l.length _
    (Ent.weak (ids := [0]) (by simp) rfl (by simp) ?_ ?_ ?_) ⟨0, by omega, by omega, rfl⟩ ?_
  · simp [objsLe, St.obj, find, AObj.renF]
  · simp [envLe, find, AV.renF, AV.renF1, Leaf.renF]
  · simp [LowAll, AV.Low, AV.Low1, Leaf.Low, AObj.Low]
  rintro n s ⟨i, hi, rfl, rfl⟩ K hK
  refine evl ?_
  refine ⟨fun h => ?_, fun h => ?_⟩
  · have hlt : i < l.length := by simpa using h
    refine ⟨⟨by omega, by omega⟩, hlt, ?_⟩
    simp only [getD_map hlt, encPin, List.map_cons, List.map_nil, List.take_succ_cons, List.take_zero]
    refine CallK_pure e131 (c131 l[i]) rfl ?_
    simp (maxSteps := 2000000) only [go_sem, ↓reduceIte, reduceCtorEq, Nat.reduceAdd, Nat.reduceMul, Nat.reduceSub, Nat.reduceLT, Nat.reduceLeDiff, Nat.reduceEqDiff, Int.reduceToNat, Int.reduceLT, Int.reduceLE, Int.reduceNeg, encPin, D.flat, wrap_succ hlt (le20 hl)]
    refine ⟨by simp; omega, by simp; omega, ?_⟩
    apply hK
    refine ⟨l.length - (i + 1), _, by omega, Ent.weak (ids := [0]) (by simp) rfl (by simp) ?_ ?_ ?_, i + 1, by omega, rfl, rfl⟩
    · simp only [objsLe, St.obj, find, AObj.renF, if_true, Option.getD_some, List.getD_cons_zero, and_true]
      rw [← take_set encPin l _ hlt]
      exact ⟨Nat.zero_lt_one, Or.inr rfl⟩
    · simp [envLe, find, AV.renF, AV.renF1, Leaf.renF]
    · simp [LowAll, AV.Low, AV.Low1, Leaf.Low, AObj.Low]
  · have hge : i = l.length := by simp at h; omega
    subst hge
    apply hK
    refine evl ?_
    refine Fin.nt Tryz.results98 [0] ?_ ?_ ?_ <;> try trivial
    all_goals simp [objsLe, St.obj, find, AObj.renF]
theorem c88 (rows : List (List D)) (left : Int) (h0 : 0 ≤ left) (h1 : left ≤ 1048576) (hl : rows.length ≤ maxLen) : Ctr Tryz.prog 88 [.one (.dat (.sl 4 rows)), .one (.dat (.int .i64 left))] [] (.one (.dat (.int .i64 (szL left rows.length)))) [] := by
  have hw := szL_wrap h0 h1 hl
  refine Ctr.bd mixed Tryz.func88 rfl ?_
  simp (maxSteps := 2000000) only [go_sem, ↓reduceIte, reduceCtorEq, Nat.reduceAdd, Nat.reduceMul, Nat.reduceSub, Nat.reduceLT, Nat.reduceLeDiff, Nat.reduceEqDiff, Int.reduceToNat, Int.reduceLT, Int.reduceLE, Int.reduceNeg, hw]
  repeat' first
    | ((with_reducible show Abs.Fin _ _ _ _ _ _); refine Fin.nt Tryz.results88 [] ?_ ?_ ?_ <;> try trivial)
    | with_reducible intro h
    | ((with_reducible show _ ∧ _); apply And.intro)
  all_goals try (first | exact True.intro | (refine rsl ?_; try exact True.intro))
  all_goals simp_all [szL]
  all_goals omega
theorem c138 (x y : Pin) : Ctr Tryz.prog 138 [.agg ((encPin x).map .dat), .agg ((encPin y).map .dat)] [] (.one (.dat (.bool (decide (x = y))))) [] := by
  simp only [encPin, List.map_cons, List.map_nil]
  refine Ctr.bd mixed Tryz.func138 rfl ?_
  refine evl ?_
  repeat' first
    | ((with_reducible show Abs.Fin _ _ _ _ _ _); refine Fin.nt Tryz.results138 [] ?_ ?_ ?_ <;> try trivial)
    | with_reducible intro h
    | ((with_reducible show _ ∧ _); apply And.intro)
  all_goals try (first | exact True.intro | (refine rsl ?_; try exact True.intro))
  all_goals simp_all [Pin.eq_iff]
theorem c110 (l l' : List Pin) (hl : l.length ≤ maxLen) (hl' : l'.length ≤ maxLen) : Ctr Tryz.prog 110 [.one (.dat (.sl 4 (l.map encPin))), .one (.dat (.sl 4 (l'.map encPin)))] [] (.one (.dat (.bool (decide (l = l'))))) [] := by
  refine Ctr.bd mixed Tryz.func110 rfl ?_
  refine evl ?_
  refine ⟨fun h => ?_, fun h => ?_⟩
  · have hne : l.length ≠ l'.length := by simp at h; omega
    refine Fin.nt Tryz.results110 [] ?_ ?_ ?_ <;> try trivial
    first | exact True.intro | (refine rsl ?_; try exact True.intro)
    symm; rw [decide_eq_false_iff_not]
    intro e; exact hne (by rw [e])
  have hlen : l.length = l'.length := by simp at h; omega
  refine LoopK_intro (fun n s => ∃ i : Nat, i ≤ l.length ∧ n = l.length - i ∧ l.take i = l'.take i ∧ s = mkSt [(5, .one (.dat (.int .i64 i))), (1, .one (.dat (.sl 4 (l'.map encPin)))), (0, .one (.dat (.sl 4 (l.map encPin))))] []) l.length _
    (Ent.weak (ids := []) (by simp) rfl (by simp) ?_ ?_ ?_) ⟨0, by omega, by omega, rfl, rfl⟩ ?_
  · simp [objsLe, St.obj, find, AObj.renF]
  · simp [envLe, find, AV.renF, AV.renF1, Leaf.renF]
  · simp [LowAll, AV.Low, AV.Low1, Leaf.Low, AObj.Low]
  rintro n s ⟨i, hi, rfl, ht, rfl⟩ K hK
  refine evl ?_
  refine ⟨fun h => ?_, fun h => ?_⟩
  · have hlt : i < l.length := by simpa using h
    have hlt' : i < l'.length := by omega
    refine ⟨⟨by omega, by omega⟩, hlt, ⟨by omega, by omega⟩, hlt', ?_⟩
    simp only [getD_map hlt, getD_map hlt', encPin, List.map_cons, List.map_nil, List.take_succ_cons, List.take_zero]
    first
      | refine CCallK_intro e138 (fun _ => ⟨trivial, c138 l[i] l'[i]⟩) rfl rfl ?_
      | refine Or.inl (CCallK_intro e138 (fun _ => ⟨trivial, c138 l[i] l'[i]⟩) rfl rfl ?_)
    simp (maxSteps := 2000000) only [go_sem, ↓reduceIte, reduceCtorEq, Nat.reduceAdd, Nat.reduceMul, Nat.reduceSub, Nat.reduceLT, Nat.reduceLeDiff, Nat.reduceEqDiff, Int.reduceToNat, Int.reduceLT, Int.reduceLE, Int.reduceNeg, wrap_succ hlt hl]
    refine ⟨fun h => ?_, fun h => ?_⟩
    · apply hK
      refine evl ?_
      refine Fin.nt Tryz.results110 [] ?_ ?_ ?_ <;> try trivial
      first | exact True.intro | (refine rsl ?_; try exact True.intro)
      symm; rw [decide_eq_false_iff_not]
      rintro rfl; simp at h
    · apply hK
      have he : l[i] = l'[i] := by simpa using h
      refine ⟨l.length - (i + 1), _, by omega, Ent.weak (ids := []) (by simp) rfl (by simp) ?_ ?_ ?_, i + 1, by omega, rfl, ?_, rfl⟩
      · simp [objsLe, St.obj, find, AObj.renF]
      · simp [envLe, find, AV.renF, AV.renF1, Leaf.renF]
      · simp [LowAll, AV.Low, AV.Low1, Leaf.Low, AObj.Low]
      · rw [List.take_succ_eq_append_getElem hlt, List.take_succ_eq_append_getElem hlt', ht, he]
  · have hge : i = l.length := by simp at h; omega
    subst hge
    apply hK
    refine evl ?_
    refine Fin.nt Tryz.results110 [] ?_ ?_ ?_ <;> try trivial
    first | exact True.intro | (refine rsl ?_; try exact True.intro)
    symm; rw [decide_eq_true_iff]
    rw [List.take_of_length_le (Nat.le_refl _), List.take_of_length_le (by omega)] at ht
    exact ht
def markPin (k : Int) : Pin := ⟨(k).tmod 3 == 0, k + 1, (k + 1 + 1).tmod 3 == 0, k + 1 + 1 + 1⟩
def markPins (k : Int) (n : Nat) : List (List D) := (List.range n).map fun i => encPin (markPin (k + 4 * (i : Nat)))
theorem markPins_length (k : Int) (n : Nat) : (markPins k n).length = n := by simp [markPins]
structure Res where
  Is : Bool
  Val : Int
  deriving DecidableEq
def encRes (x : Res) : List D := [.bool x.Is, .int .i64 x.Val]
def Res.wf (x : Res) : Prop := (Lit.int .i64 x.Val).wf = true ∧ True
theorem Res.eq_iff (x y : Res) : x = y ↔ x.Is = y.Is ∧ x.Val = y.Val := by cases x; cases y; simp
theorem c135 (x : Res) : Ctr Tryz.prog 135 [.agg ((encRes x).map .dat)] [] (.agg ((encRes x).map .dat)) [] := by
  simp only [encRes, List.map_cons, List.map_nil]
  refine Ctr.bd mixed Tryz.func135 rfl ?_
  refine evl ?_
  repeat' first
    | ((with_reducible show Abs.Fin _ _ _ _ _ _); refine Fin.nt Tryz.results135 [] ?_ ?_ ?_ <;> try trivial)
    | with_reducible intro h
    | ((with_reducible show _ ∧ _); apply And.intro)
  all_goals first | rfl | simp
theorem c105 (l : List Res) (hl : l.length ≤ 1048576) : Ctr Tryz.prog 105 [.one (.dat (.sl 2 (l.map encRes)))] [] (.one (.own 0)) [.vec 2 true (l.map encRes)] := by
  refine Ctr.bd mixed Tryz.func105 rfl ?_
  refine evl ?_
  refine ⟨by omega, ?_⟩
  refine LoopK_intro (fun n s => ∃ i : Nat, i ≤ l.length ∧ n = l.length - i ∧ s = mkSt [(4, .one (.dat (.int .i64 i))), (3, .one (.own 0)), (0, .one (.dat (.sl 2 (l.map encRes))))]
      [.vec 2 true ((l.take i).map encRes ++ List.replicate (l.length - i) [.bool false, .int .i64 0])]) l.length _
    (Ent.weak (ids := [0]) (by simp) rfl (by simp) ?_ ?_ ?_) ⟨0, by omega, by omega, rfl⟩ ?_
  · simp [objsLe, St.obj, find, AObj.renF]
  · simp [envLe, find, AV.renF, AV.renF1, Leaf.renF]
  · simp [LowAll, AV.Low, AV.Low1, Leaf.Low, AObj.Low]
  rintro n s ⟨i, hi, rfl, rfl⟩ K hK
  refine evl ?_
  refine ⟨fun h => ?_, fun h => ?_⟩
  · have hlt : i < l.length := by simpa using h
    refine ⟨⟨by omega, by omega⟩, hlt, ?_⟩
    simp only [getD_map hlt, encRes, List.map_cons, List.map_nil, List.take_succ_cons, List.take_zero]
    refine CallK_pure e135 (c135 l[i]) rfl ?_
    simp (maxSteps := 2000000) only [go_sem, ↓reduceIte, reduceCtorEq, Nat.reduceAdd, Nat.reduceMul, Nat.reduceSub, Nat.reduceLT, Nat.reduceLeDiff, Nat.reduceEqDiff, Int.reduceToNat, Int.reduceLT, Int.reduceLE, Int.reduceNeg, encRes, D.flat, wrap_succ hlt (le20 hl)]
    refine ⟨by simp; omega, by simp; omega, ?_⟩
    apply hK
    refine ⟨l.length - (i + 1), _, by omega, Ent.weak (ids := [0]) (by simp) rfl (by simp) ?_ ?_ ?_, i + 1, by omega, rfl, rfl⟩
    · simp only [objsLe, St.obj, find, AObj.renF, if_true, Option.getD_some, List.getD_cons_zero, and_true]
      rw [← take_set encRes l _ hlt]
      exact ⟨Nat.zero_lt_one, Or.inr rfl⟩
    · simp [envLe, find, AV.renF, AV.renF1, Leaf.renF]
    · simp [LowAll, AV.Low, AV.Low1, Leaf.Low, AObj.Low]
  · have hge : i = l.length := by simp at h; omega
    subst hge
    apply hK
    refine evl ?_
    refine Fin.nt Tryz.results105 [0] ?_ ?_ ?_ <;> try trivial
    all_goals simp [objsLe, St.obj, find, AObj.renF]
theorem c93 (rows : List (List D)) (left : Int) (h0 : 0 ≤ left) (h1 : left ≤ 1048576) (hl : rows.length ≤ maxLen) : Ctr Tryz.prog 93 [.one (.dat (.sl 2 rows)), .one (.dat (.int .i64 left))] [] (.one (.dat (.int .i64 (szL left rows.length)))) [] := by
  have hw := szL_wrap h0 h1 hl
  refine Ctr.bd mixed Tryz.func93 rfl ?_
  simp (maxSteps := 2000000) only [go_sem, ↓reduceIte, reduceCtorEq, Nat.reduceAdd, Nat.reduceMul, Nat.reduceSub, Nat.reduceLT, Nat.reduceLeDiff, Nat.reduceEqDiff, Int.reduceToNat, Int.reduceLT, Int.reduceLE, Int.reduceNeg, hw]
  repeat' first
    | ((with_reducible show Abs.Fin _ _ _ _ _ _); refine Fin.nt Tryz.results93 [] ?_ ?_ ?_ <;> try trivial)
    | with_reducible intro h
    | ((with_reducible show _ ∧ _); apply And.intro)
  all_goals try (first | exact True.intro | (refine rsl ?_; try exact True.intro))
  all_goals simp_all [szL]
  all_goals omega
theorem c142 (x y : Res) : Ctr Tryz.prog 142 [.agg ((encRes x).map .dat), .agg ((encRes y).map .dat)] [] (.one (.dat (.bool (decide (x = y))))) [] := by
  simp only [encRes, List.map_cons, List.map_nil]
  refine Ctr.bd mixed Tryz.func142 rfl ?_
  refine evl ?_
  repeat' first
    | ((with_reducible show Abs.Fin _ _ _ _ _ _); refine Fin.nt Tryz.results142 [] ?_ ?_ ?_ <;> try trivial)
    | with_reducible intro h
    | ((with_reducible show _ ∧ _); apply And.intro)
  all_goals try (first | exact True.intro | (refine rsl ?_; try exact True.intro))
  all_goals simp_all [Res.eq_iff]
theorem c117 (l l' : List Res) (hl : l.length ≤ maxLen) (hl' : l'.length ≤ maxLen) : Ctr Tryz.prog 117 [.one (.dat (.sl 2 (l.map encRes))), .one (.dat (.sl 2 (l'.map encRes)))] [] (.one (.dat (.bool (decide (l = l'))))) [] := by
  refine Ctr.bd mixed Tryz.func117 rfl ?_
  refine evl ?_
  refine ⟨fun h => ?_, fun h => ?_⟩
  · have hne : l.length ≠ l'.length := by simp at h; omega
    refine Fin.nt Tryz.results117 [] ?_ ?_ ?_ <;> try trivial
    first | exact True.intro | (refine rsl ?_; try exact True.intro)
    symm; rw [decide_eq_false_iff_not]
    intro e; exact hne (by rw [e])
  have hlen : l.length = l'.length := by simp at h; omega
  refine LoopK_intro (fun n s => ∃ i : Nat, i ≤ l.length ∧ n = l.length - i ∧ l.take i = l'.take i ∧ s = mkSt [(5, .one (.dat (.int .i64 i))), (1, .one (.dat (.sl 2 (l'.map encRes)))), (0, .one (.dat (.sl 2 (l.map encRes))))] []) l.length _
    (Ent.weak (ids := []) (by simp) rfl (by simp) ?_ ?_ ?_) ⟨0, by omega, by omega, rfl, rfl⟩ ?_
  · simp [objsLe, St.obj, find, AObj.renF]
  · simp [envLe, find, AV.renF, AV.renF1, Leaf.renF]
  · simp [LowAll, AV.Low, AV.Low1, Leaf.Low, AObj.Low]
  rintro n s ⟨i, hi, rfl, ht, rfl⟩ K hK
  refine evl ?_
  refine ⟨fun h => ?_, fun h => ?_⟩
  · have hlt : i < l.length := by simpa using h
    have hlt' : i < l'.length := by omega
    refine ⟨⟨by omega, by omega⟩, hlt, ⟨by omega, by omega⟩, hlt', ?_⟩
    simp only [getD_map hlt, getD_map hlt', encRes, List.map_cons, List.map_nil, List.take_succ_cons, List.take_zero]
    first
      | refine CCallK_intro e142 (fun _ => ⟨trivial, c142 l[i] l'[i]⟩) rfl rfl ?_
      | refine Or.inl (CCallK_intro e142 (fun _ => ⟨trivial, c142 l[i] l'[i]⟩) rfl rfl ?_)
    simp (maxSteps := 2000000) only [go_sem, ↓reduceIte, reduceCtorEq, Nat.reduceAdd, Nat.reduceMul, Nat.reduceSub, Nat.reduceLT, Nat.reduceLeDiff, Nat.reduceEqDiff, Int.reduceToNat, Int.reduceLT, Int.reduceLE, Int.reduceNeg, wrap_succ hlt hl]
    refine ⟨fun h => ?_, fun h => ?_⟩
    · apply hK
      refine evl ?_
      refine Fin.nt Tryz.results117 [] ?_ ?_ ?_ <;> try trivial
      first | exact True.intro | (refine rsl ?_; try exact True.intro)
      symm; rw [decide_eq_false_iff_not]
      rintro rfl; simp at h
    · apply hK
      have he : l[i] = l'[i] := by simpa using h
      refine ⟨l.length - (i + 1), _, by omega, Ent.weak (ids := []) (by simp) rfl (by simp) ?_ ?_ ?_, i + 1, by omega, rfl, ?_, rfl⟩
      · simp [objsLe, St.obj, find, AObj.renF]
      · simp [envLe, find, AV.renF, AV.renF1, Leaf.renF]
      · simp [LowAll, AV.Low, AV.Low1, Leaf.Low, AObj.Low]
      · rw [List.take_succ_eq_append_getElem hlt, List.take_succ_eq_append_getElem hlt', ht, he]
  · have hge : i = l.length := by simp at h; omega
    subst hge
    apply hK
    refine evl ?_
    refine Fin.nt Tryz.results117 [] ?_ ?_ ?_ <;> try trivial
    first | exact True.intro | (refine rsl ?_; try exact True.intro)
    symm; rw [decide_eq_true_iff]
    rw [List.take_of_length_le (Nat.le_refl _), List.take_of_length_le (by omega)] at ht
    exact ht
def markRes (k : Int) : Res := ⟨(k).tmod 3 == 0, k + 1⟩
def markRess (k : Int) (n : Nat) : List (List D) := (List.range n).map fun i => encRes (markRes (k + 2 * (i : Nat)))
theorem markRess_length (k : Int) (n : Nat) : (markRess k n).length = n := by simp [markRess]
structure Ev where
  Kind : Int
  Who : Int
  Serial : Int
  Cell : Int
  Handle : Int
  Val : Int
  Code : Int
  deriving DecidableEq
def encEv (x : Ev) : List D := [.int .i64 x.Kind, .int .i64 x.Who, .int .i64 x.Serial, .int .i64 x.Cell, .int .i64 x.Handle, .int .i64 x.Val, .int .i64 x.Code]
def Ev.wf (x : Ev) : Prop := (Lit.int .i64 x.Kind).wf = true ∧ (Lit.int .i64 x.Who).wf = true ∧ (Lit.int .i64 x.Serial).wf = true ∧ (Lit.int .i64 x.Cell).wf = true ∧ (Lit.int .i64 x.Handle).wf = true ∧ (Lit.int .i64 x.Val).wf = true ∧ (Lit.int .i64 x.Code).wf = true ∧ True
theorem Ev.eq_iff (x y : Ev) : x = y ↔ x.Kind = y.Kind ∧ x.Who = y.Who ∧ x.Serial = y.Serial ∧ x.Cell = y.Cell ∧ x.Handle = y.Handle ∧ x.Val = y.Val ∧ x.Code = y.Code := by cases x; cases y; simp
def markEv (k : Int) : Ev := ⟨k, k + 1, k + 1 + 1, k + 1 + 1 + 1, k + 1 + 1 + 1 + 1, k + 1 + 1 + 1 + 1 + 1, k + 1 + 1 + 1 + 1 + 1 + 1⟩
def markEvs (k : Int) (n : Nat) : List (List D) := (List.range n).map fun i => encEv (markEv (k + 7 * (i : Nat)))
theorem markEvs_length (k : Int) (n : Nat) : (markEvs k n).length = n := by simp [markEvs]
end Go.Proofs.YtjfpaiencojehaaGreat.Mod
