/- Contracts: Fam. -/
import Derived.Test.YtjfpaiencojehaaRows
import Derived.Test.YtjfpaiencojehaaTy
import Derived.Test.YtjfpaiencojehaaAbsTac
import Derived.Test.YtjfpaiencojehaaAbsData
import Derived.Test.YtjfpaiencojehaaMBase
import Derived.WalkKit
import Derived.ProofKit
import Derived.OpenShut
namespace Go.Proofs.Ytjfpaiencojehaa.Mod
open Go.Abs Go.Proofs.Ytjfpaiencojehaa.Ty Go.ChangeShapes Go.WideShapes Go.ChangeAt Go.RowKit
set_option linter.unusedSimpArgs false
set_option linter.unusedVariables false
set_option maxHeartbeats 8000000
set_option maxRecDepth 100000
structure KV where
  Key : Int
  Val : Int
  deriving DecidableEq
def encKV (x : KV) : List D := [.int .i64 x.Key, .int .i64 x.Val]
def KV.wf (x : KV) : Prop := (Lit.int .i64 x.Key).wf = true ∧ (Lit.int .i64 x.Val).wf = true ∧ True
theorem KV.eq_iff (x y : KV) : x = y ↔ x.Key = y.Key ∧ x.Val = y.Val := by cases x; cases y; simp
theorem c31 (x y : KV) : Ctr Try.prog 31 [.agg ((encKV x).map .dat), .agg ((encKV y).map .dat)] [] (.one (.dat (.bool (decide (x = y))))) [] := by
  simp only [encKV, List.map_cons, List.map_nil]
  refine Ctr.bd mixed Try.func31 rfl ?_
  refine evl ?_
  repeat' first
    | ((with_reducible show Abs.Fin _ _ _ _ _ _); refine Fin.nt Try.results31 [] ?_ ?_ ?_ <;> try trivial)
    | with_reducible intro h
    | ((with_reducible show _ ∧ _); apply And.intro)
  all_goals try (first | exact True.intro | (refine rsl ?_; try exact True.intro))
  all_goals simp_all [KV.eq_iff]
theorem c10 (l l' : List KV) (hl : l.length ≤ maxLen) (hl' : l'.length ≤ maxLen) : Ctr Try.prog 10 [.one (.dat (.sl 2 (l.map encKV))), .one (.dat (.sl 2 (l'.map encKV)))] [] (.one (.dat (.bool (decide (l = l'))))) [] := by
  refine Ctr.bd mixed Try.func10 rfl ?_
  refine evl ?_
  refine ⟨fun h => ?_, fun h => ?_⟩
  · have hne : l.length ≠ l'.length := by simp at h; omega
    refine Fin.nt Try.results10 [] ?_ ?_ ?_ <;> try trivial
    first | exact True.intro | (refine rsl ?_; try exact True.intro)
    symm; rw [decide_eq_false_iff_not]
    intro e; exact hne (by rw [e])
  have hlen : l.length = l'.length := by simp at h; omega
  refine LoopK_intro (fun n s => ∃ i : Nat, i ≤ l.length ∧ n = l.length - i ∧ l.take i = l'.take i ∧ s = mkSt [(5, .one (.dat (.int .i64 i))), (1, .one (.dat (.sl 2 (l'.map encKV)))), (0, .one (.dat (.sl 2 (l.map encKV))))] []) l.length _
    (Ent.weak (ids := []) (by simp) rfl (by simp) ?_ ?_ ?_) ⟨0, by omega, by omega, rfl, rfl⟩ ?_
  · simp [objsLe, St.obj, find, AObj.renF]
  · simp [envLe, find, AV.renF, AV.renF1, Leaf.renF]
  · simp [LowAll, AV.Low, AV.Low1, Leaf.Low, AObj.Low]
  rintro n s ⟨i, hi, rfl, ht, rfl⟩ K hK
  refine evl ?_
  refine ⟨fun h => ?_, fun h => ?_⟩
  · have hlt : i < l.length := by simpa using h
    have hlt' : i < l'.length := by omega
    refine ⟨⟨by omega, by omega⟩, hlt, ⟨by omega, by omega⟩, hlt', ?_⟩
    simp only [getD_map hlt, getD_map hlt', encKV, List.map_cons, List.map_nil, List.take_succ_cons, List.take_zero]
    first
      | refine CCallK_intro e31 (fun _ => ⟨trivial, c31 l[i] l'[i]⟩) rfl rfl ?_
      | refine Or.inl (CCallK_intro e31 (fun _ => ⟨trivial, c31 l[i] l'[i]⟩) rfl rfl ?_)
    simp (maxSteps := 2000000) only [go_sem, ↓reduceIte, reduceCtorEq, Nat.reduceAdd, Nat.reduceMul, Nat.reduceSub, Nat.reduceLT, Nat.reduceLeDiff, Nat.reduceEqDiff, Int.reduceToNat, Int.reduceLT, Int.reduceLE, Int.reduceNeg, wrap_succ hlt hl]
    refine ⟨fun h => ?_, fun h => ?_⟩
    · apply hK
      refine evl ?_
      refine Fin.nt Try.results10 [] ?_ ?_ ?_ <;> try trivial
      first | exact True.intro | (refine rsl ?_; try exact True.intro)
      symm; rw [decide_eq_false_iff_not]
      rintro rfl; simp at h
    · apply hK
      have he : l[i] = l'[i] := by simpa using h
      refine ⟨l.length - (i + 1), _, by omega, Ent.weak (ids := []) (by simp) rfl (by simp) ?_ ?_ ?_, i + 1, by omega, rfl, ?_, rfl⟩
      · simp [objsLe, St.obj, find, AObj.renF]
      · simp [envLe, find, AV.renF, AV.renF1, Leaf.renF]
      · simp [LowAll, AV.Low, AV.Low1, Leaf.Low, AObj.Low]
      · rw [List.take_succ_eq_append_getElem hlt, List.take_succ_eq_append_getElem hlt', ht, he]
  · have hge : i = l.length := by simp at h; omega
    subst hge
    apply hK
    refine evl ?_
    refine Fin.nt Try.results10 [] ?_ ?_ ?_ <;> try trivial
    first | exact True.intro | (refine rsl ?_; try exact True.intro)
    symm; rw [decide_eq_true_iff]
    rw [List.take_of_length_le (Nat.le_refl _), List.take_of_length_le (by omega)] at ht
    exact ht
def markKV (k : Int) : KV := ⟨k, k + 1⟩
def markKVs (k : Int) (n : Nat) : List (List D) := (List.range n).map fun i => encKV (markKV (k + 2 * (i : Nat)))
theorem markKVs_length (k : Int) (n : Nat) : (markKVs k n).length = n := by simp [markKVs]
theorem c13 (l : List KV) (k : Int) (hk0 : 0 ≤ k) (hk : k + 2 * l.length ≤ 4611686018427387904) : Ctr Try.prog 13 [.one (.own 0), .one (.dat (.int .i64 k))] [.vec 2 true (l.map encKV)] (.one (.dat (.int .i64 (k + 2 * l.length)))) [.vec 2 true (markKVs k l.length)] := by
  refine Ctr.of_body mixed Try.func13 rfl (by kernel_rfl) (Nat.le_of_ble_eq_true rfl) (by simp [AV.Clean, AV.Clean1, Leaf.Clean, D.flat]) (by simp [AObj.Sep]) (by simp) ?_ (by simp [AV.Low, AV.Low1, Leaf.Low]) ?_
  · intro o ho
    have : o = 0 := by simpa using ho
    subst this
    simp [Objs, Compat, markKVs]
  show wpA _ _ _ (FinQ _ _ _ _ _) _
  unfold markKVs
  refine evl ?_
  refine LoopK_intro (fun n s => ∃ i : Nat, i ≤ l.length ∧ n = l.length - i ∧ s = mkSt [(5, .one (.dat (.int .i64 i))), (1, .one (.dat (.int .i64 (k + 2 * (i : Nat))))), (0, .one (.own 0))]
      [.vec 2 true ((List.range i).map (fun i => encKV (markKV (k + 2 * (i : Nat)))) ++ (l.drop i).map encKV)]) l.length _
    (Ent.weak (ids := [0]) (by simp) rfl (by simp) (by simp [objsLe, envLe, find, St.obj, AObj.renF, AV.renF, AV.renF1, Leaf.renF, LowAll, AV.Low, AV.Low1, Leaf.Low, AObj.Low, Ptr.renF, Ptr.Low]) (by simp [objsLe, envLe, find, St.obj, AObj.renF, AV.renF, AV.renF1, Leaf.renF, LowAll, AV.Low, AV.Low1, Leaf.Low, AObj.Low, Ptr.renF, Ptr.Low]) (by simp [objsLe, envLe, find, St.obj, AObj.renF, AV.renF, AV.renF1, Leaf.renF, LowAll, AV.Low, AV.Low1, Leaf.Low, AObj.Low, Ptr.renF, Ptr.Low])) ⟨0, by omega, by omega, rfl⟩ ?_
  rintro n s ⟨i, hi, rfl, rfl⟩ K hK
  have hlen : ((List.range i).map (fun i => encKV (markKV (k + 2 * (i : Nat)))) ++ (l.drop i).map encKV).length = l.length := by simp; omega
  rcases Nat.lt_or_ge i l.length with hlt | hge
  · have hA : ((List.range i).map (fun i => encKV (markKV (k + 2 * (i : Nat))))).length = i := by simp
    have hd : decide ((i : Int) < l.length) = true := by simpa using hlt
    have hw := wrap_succ hlt (show l.length ≤ maxLen by unfold maxLen; omega)
    have hw1 : IntKind.i64.wrap (k + 2 * (i : Int) + 1) = k + 2 * (i : Int) + 1 := by rw [IntKind.wrap_i64]; omega
    have hw2 : IntKind.i64.wrap (k + 2 * (i : Int) + 1 + 1) = k + 2 * (i : Int) + 1 + 1 := by rw [IntKind.wrap_i64]; omega
    rw [List.drop_eq_getElem_cons hlt, List.map_cons] at hlen ⊢
    generalize hAd : (List.range i).map (fun i => encKV (markKV (k + 2 * (i : Nat)))) = A at hA hlen ⊢
    have hl1 : ∀ x, (A ++ x :: (l.drop (i + 1)).map encKV).length = l.length := fun x => by
      rw [List.length_append, List.length_cons] at hlen ⊢; exact hlen
    simp (maxSteps := 2000000) only [go_sem, ↓reduceIte, reduceCtorEq, Nat.reduceAdd, Nat.reduceMul, Nat.reduceSub, Nat.reduceLT, Nat.reduceLeDiff, Nat.reduceEqDiff, Int.reduceToNat, Int.reduceLT, Int.reduceLE, Int.reduceNeg, hl1, hd, set_mid hA, getD_mid hA, encKV, hw, hw1, hw2, D.flat]
    repeat' ((with_reducible show _ ∧ _); apply And.intro)
    all_goals first
      | (with_reducible exact hlt)
      | omega
      | (exact (by decide : ((3 : Int) = 0 → False)))
      | skip
    apply hK
    refine ⟨l.length - (i + 1), _, by omega, Ent.weak (ids := [0]) (by simp) rfl (by simp) ?_ ?_ (by simp [objsLe, envLe, find, St.obj, AObj.renF, AV.renF, AV.renF1, Leaf.renF, LowAll, AV.Low, AV.Low1, Leaf.Low, AObj.Low, Ptr.renF, Ptr.Low]), i + 1, by omega, rfl, rfl⟩
    · rw [List.range_succ, List.map_append, hAd]
      simp [objsLe, envLe, find, St.obj, AObj.renF, AV.renF, AV.renF1, Leaf.renF, LowAll, AV.Low, AV.Low1, Leaf.Low, AObj.Low, Ptr.renF, Ptr.Low]
      rfl
    · simp [objsLe, envLe, find, St.obj, AObj.renF, AV.renF, AV.renF1, Leaf.renF, LowAll, AV.Low, AV.Low1, Leaf.Low, AObj.Low, Ptr.renF, Ptr.Low]
      omega
  · have hge' : i = l.length := by omega
    subst hge'
    have hd : decide ((l.length : Int) < l.length) = false := by simp
    simp (maxSteps := 2000000) only [go_sem, ↓reduceIte, reduceCtorEq, Nat.reduceAdd, Nat.reduceMul, Nat.reduceSub, Nat.reduceLT, Nat.reduceLeDiff, Nat.reduceEqDiff, Int.reduceToNat, Int.reduceLT, Int.reduceLE, Int.reduceNeg, hlen, hd]
    apply hK
    refine evl ?_
    refine Fin.nt Try.results13 [0] ?_ ?_ ?_ <;> try trivial
    rw [List.drop_length, List.map_nil, List.append_nil]
    simp [objsLe, envLe, find, St.obj, AObj.renF, AV.renF, AV.renF1, Leaf.renF, LowAll, AV.Low, AV.Low1, Leaf.Low, AObj.Low, Ptr.renF, Ptr.Low]
theorem c14 (n : Nat) (k : Int) (hk0 : 0 ≤ k) (hk : k + 2 * n ≤ 4611686018427387904) : Ctr Try.prog 14 [.one (.dat (.sl 2 (markKVs k n))), .one (.dat (.int .i64 k))] [] (.one (.dat (.int .i64 (k + 2 * n)))) [] := by
  refine Ctr.bd mixed Try.func14 rfl ?_
  unfold markKVs
  refine evl ?_
  refine LoopK_intro (fun m s => ∃ i : Nat, i ≤ n ∧ m = n - i ∧ s = mkSt [(5, .one (.dat (.int .i64 i))), (1, .one (.dat (.int .i64 (k + 2 * (i : Nat))))), (0, .one (.dat (.sl 2 ((List.range n).map fun i => encKV (markKV (k + 2 * (i : Nat)))))))] []) n _
    (Ent.weak (ids := []) (by simp) rfl (by simp) (by simp [objsLe, envLe, find, St.obj, AObj.renF, AV.renF, AV.renF1, Leaf.renF, LowAll, AV.Low, AV.Low1, Leaf.Low, AObj.Low, Ptr.renF, Ptr.Low]) (by simp [objsLe, envLe, find, St.obj, AObj.renF, AV.renF, AV.renF1, Leaf.renF, LowAll, AV.Low, AV.Low1, Leaf.Low, AObj.Low, Ptr.renF, Ptr.Low]) (by simp [objsLe, envLe, find, St.obj, AObj.renF, AV.renF, AV.renF1, Leaf.renF, LowAll, AV.Low, AV.Low1, Leaf.Low, AObj.Low, Ptr.renF, Ptr.Low])) ⟨0, by omega, by omega, rfl⟩ ?_
  rintro m s ⟨i, hi, rfl, rfl⟩ K hK
  have hlen : ((List.range n).map fun i => encKV (markKV (k + 2 * (i : Nat)))).length = n := by simp
  rcases Nat.lt_or_ge i n with hlt | hge
  · have hd : decide ((i : Int) < n) = true := by simpa using hlt
    have hw := wrap_succ hlt (show n ≤ maxLen by unfold maxLen; omega)
    have hw1 : IntKind.i64.wrap (k + 2 * (i : Int) + 1) = k + 2 * (i : Int) + 1 := by rw [IntKind.wrap_i64]; omega
    have hw2 : IntKind.i64.wrap (k + 2 * (i : Int) + 1 + 1) = k + 2 * (i : Int) + 1 + 1 := by rw [IntKind.wrap_i64]; omega
    have hg : ((List.range n).map fun i => encKV (markKV (k + 2 * (i : Nat)))).getD i [] = encKV (markKV (k + 2 * (i : Nat))) := getD_range hlt
    generalize ((List.range n).map fun i => encKV (markKV (k + 2 * (i : Nat)))) = L at hlen hg hK ⊢
    simp (maxSteps := 2000000) only [go_sem, ↓reduceIte, reduceCtorEq, Nat.reduceAdd, Nat.reduceMul, Nat.reduceSub, Nat.reduceLT, Nat.reduceLeDiff, Nat.reduceEqDiff, Int.reduceToNat, Int.reduceLT, Int.reduceLE, Int.reduceNeg, hlen, hd, hg, encKV, markKV, hw, hw1, hw2]
    repeat' first
      | with_reducible intro h
      | ((with_reducible show _ ∧ _); apply And.intro)
    all_goals try (first | omega | exact hlt | exact absurd ‹(3 : Int) = 0› (by decide))
    apply hK
    refine ⟨n - (i + 1), _, by omega, Ent.weak (ids := []) (by simp) rfl (by simp) (by simp [objsLe, envLe, find, St.obj, AObj.renF, AV.renF, AV.renF1, Leaf.renF, LowAll, AV.Low, AV.Low1, Leaf.Low, AObj.Low, Ptr.renF, Ptr.Low]) (by simp [objsLe, envLe, find, St.obj, AObj.renF, AV.renF, AV.renF1, Leaf.renF, LowAll, AV.Low, AV.Low1, Leaf.Low, AObj.Low, Ptr.renF, Ptr.Low]; omega) (by simp [objsLe, envLe, find, St.obj, AObj.renF, AV.renF, AV.renF1, Leaf.renF, LowAll, AV.Low, AV.Low1, Leaf.Low, AObj.Low, Ptr.renF, Ptr.Low]), i + 1, by omega, rfl, rfl⟩
  · have hge' : i = n := by omega
    subst hge'
    have hd : decide ((i : Int) < i) = false := by simp
    simp (maxSteps := 2000000) only [go_sem, ↓reduceIte, reduceCtorEq, Nat.reduceAdd, Nat.reduceMul, Nat.reduceSub, Nat.reduceLT, Nat.reduceLeDiff, Nat.reduceEqDiff, Int.reduceToNat, Int.reduceLT, Int.reduceLE, Int.reduceNeg, List.length_range, hd]
    apply hK
    refine evl ?_
    refine Fin.nt Try.results14 [] ?_ ?_ ?_ <;> try trivial
structure Seen where
  Bkt : Int
  Ver : Int
  deriving DecidableEq
def encSeen (x : Seen) : List D := [.int .i64 x.Bkt, .int .i64 x.Ver]
def Seen.wf (x : Seen) : Prop := (Lit.int .i64 x.Bkt).wf = true ∧ (Lit.int .i64 x.Ver).wf = true ∧ True
theorem Seen.eq_iff (x y : Seen) : x = y ↔ x.Bkt = y.Bkt ∧ x.Ver = y.Ver := by cases x; cases y; simp
def markSeen (k : Int) : Seen := ⟨k, k + 1⟩
def markSeens (k : Int) (n : Nat) : List (List D) := (List.range n).map fun i => encSeen (markSeen (k + 2 * (i : Nat)))
theorem markSeens_length (k : Int) (n : Nat) : (markSeens k n).length = n := by simp [markSeens]
structure Write where
  Key : Int
  Del : Bool
  Val : Int
  deriving DecidableEq
def encWrite (x : Write) : List D := [.int .i64 x.Key, .bool x.Del, .int .i64 x.Val]
def Write.wf (x : Write) : Prop := (Lit.int .i64 x.Key).wf = true ∧ (Lit.int .i64 x.Val).wf = true ∧ True
theorem Write.eq_iff (x y : Write) : x = y ↔ x.Key = y.Key ∧ x.Del = y.Del ∧ x.Val = y.Val := by cases x; cases y; simp
def markWrite (k : Int) : Write := ⟨k, (k + 1).tmod 3 == 0, k + 1 + 1⟩
def markWrites (k : Int) (n : Nat) : List (List D) := (List.range n).map fun i => encWrite (markWrite (k + 3 * (i : Nat)))
theorem markWrites_length (k : Int) (n : Nat) : (markWrites k n).length = n := by simp [markWrites]
structure Cmd where
  Kind : Int
  Key : Int
  Val : Int
  deriving DecidableEq
def encCmd (x : Cmd) : List D := [.int .i64 x.Kind, .int .i64 x.Key, .int .i64 x.Val]
def Cmd.wf (x : Cmd) : Prop := (Lit.int .i64 x.Kind).wf = true ∧ (Lit.int .i64 x.Key).wf = true ∧ (Lit.int .i64 x.Val).wf = true ∧ True
theorem Cmd.eq_iff (x y : Cmd) : x = y ↔ x.Kind = y.Kind ∧ x.Key = y.Key ∧ x.Val = y.Val := by cases x; cases y; simp
theorem c89 (x : Cmd) : Ctr Try.prog 89 [.agg ((encCmd x).map .dat)] [] (.agg ((encCmd x).map .dat)) [] := by
  simp only [encCmd, List.map_cons, List.map_nil]
  refine Ctr.bd mixed Try.func89 rfl ?_
  refine evl ?_
  repeat' first
    | ((with_reducible show Abs.Fin _ _ _ _ _ _); refine Fin.nt Try.results89 [] ?_ ?_ ?_ <;> try trivial)
    | with_reducible intro h
    | ((with_reducible show _ ∧ _); apply And.intro)
  all_goals first | rfl | simp
theorem c60 (l : List Cmd) (hl : l.length ≤ 1048576) : Ctr Try.prog 60 [.one (.dat (.sl 3 (l.map encCmd)))] [] (.one (.own 0)) [.vec 3 true (l.map encCmd)] := by
  refine Ctr.bd mixed Try.func60 rfl ?_
  refine evl ?_
  refine ⟨by omega, ?_⟩
  refine LoopK_intro (fun n s => ∃ i : Nat, i ≤ l.length ∧ n = l.length - i ∧ s = mkSt [(4, .one (.dat (.int .i64 i))), (3, .one (.own 0)), (0, .one (.dat (.sl 3 (l.map encCmd))))]
      [.vec 3 true ((l.take i).map encCmd ++ List.replicate (l.length - i) [.int .i64 0, .int .i64 0, .int .i64 0])]) l.length _
    (Ent.weak (ids := [0]) (by simp) rfl (by simp) ?_ ?_ ?_) ⟨0, by omega, by omega, rfl⟩ ?_
  · simp [objsLe, St.obj, find, AObj.renF]
  · simp [envLe, find, AV.renF, AV.renF1, Leaf.renF]
  · simp [LowAll, AV.Low, AV.Low1, Leaf.Low, AObj.Low]
  rintro n s ⟨i, hi, rfl, rfl⟩ K hK
  refine evl ?_
  refine ⟨fun h => ?_, fun h => ?_⟩
  · have hlt : i < l.length := by simpa using h
    refine ⟨⟨by omega, by omega⟩, hlt, ?_⟩
    simp only [getD_map hlt, encCmd, List.map_cons, List.map_nil, List.take_succ_cons, List.take_zero]
    refine CallK_pure e89 (c89 l[i]) rfl ?_
    simp (maxSteps := 2000000) only [go_sem, ↓reduceIte, reduceCtorEq, Nat.reduceAdd, Nat.reduceMul, Nat.reduceSub, Nat.reduceLT, Nat.reduceLeDiff, Nat.reduceEqDiff, Int.reduceToNat, Int.reduceLT, Int.reduceLE, Int.reduceNeg, encCmd, D.flat, wrap_succ hlt (le20 hl)]
    refine ⟨by simp; omega, by simp; omega, ?_⟩
    apply hK
    refine ⟨l.length - (i + 1), _, by omega, Ent.weak (ids := [0]) (by simp) rfl (by simp) ?_ ?_ ?_, i + 1, by omega, rfl, rfl⟩
    · simp only [objsLe, St.obj, find, AObj.renF, if_true, Option.getD_some, List.getD_cons_zero, and_true]
      rw [← take_set encCmd l _ hlt]
      exact ⟨Nat.zero_lt_one, Or.inr rfl⟩
    · simp [envLe, find, AV.renF, AV.renF1, Leaf.renF]
    · simp [LowAll, AV.Low, AV.Low1, Leaf.Low, AObj.Low]
  · have hge : i = l.length := by simp at h; omega
    subst hge
    apply hK
    refine evl ?_
    refine Fin.nt Try.results60 [0] ?_ ?_ ?_ <;> try trivial
    all_goals simp [objsLe, St.obj, find, AObj.renF]
theorem c54 (rows : List (List D)) (left : Int) (h0 : 0 ≤ left) (h1 : left ≤ 1048576) (hl : rows.length ≤ maxLen) : Ctr Try.prog 54 [.one (.dat (.sl 3 rows)), .one (.dat (.int .i64 left))] [] (.one (.dat (.int .i64 (szL left rows.length)))) [] := by
  have hw := szL_wrap h0 h1 hl
  refine Ctr.bd mixed Try.func54 rfl ?_
  simp (maxSteps := 2000000) only [go_sem, ↓reduceIte, reduceCtorEq, Nat.reduceAdd, Nat.reduceMul, Nat.reduceSub, Nat.reduceLT, Nat.reduceLeDiff, Nat.reduceEqDiff, Int.reduceToNat, Int.reduceLT, Int.reduceLE, Int.reduceNeg, hw]
  repeat' first
    | ((with_reducible show Abs.Fin _ _ _ _ _ _); refine Fin.nt Try.results54 [] ?_ ?_ ?_ <;> try trivial)
    | with_reducible intro h
    | ((with_reducible show _ ∧ _); apply And.intro)
  all_goals try (first | exact True.intro | (refine rsl ?_; try exact True.intro))
  all_goals simp_all [szL]
  all_goals omega
theorem c96 (x y : Cmd) : Ctr Try.prog 96 [.agg ((encCmd x).map .dat), .agg ((encCmd y).map .dat)] [] (.one (.dat (.bool (decide (x = y))))) [] := by
  simp only [encCmd, List.map_cons, List.map_nil]
  refine Ctr.bd mixed Try.func96 rfl ?_
  refine evl ?_
  repeat' first
    | ((with_reducible show Abs.Fin _ _ _ _ _ _); refine Fin.nt Try.results96 [] ?_ ?_ ?_ <;> try trivial)
    | with_reducible intro h
    | ((with_reducible show _ ∧ _); apply And.intro)
  all_goals try (first | exact True.intro | (refine rsl ?_; try exact True.intro))
  all_goals simp_all [Cmd.eq_iff]
theorem c66 (l l' : List Cmd) (hl : l.length ≤ maxLen) (hl' : l'.length ≤ maxLen) : Ctr Try.prog 66 [.one (.dat (.sl 3 (l.map encCmd))), .one (.dat (.sl 3 (l'.map encCmd)))] [] (.one (.dat (.bool (decide (l = l'))))) [] := by
  refine Ctr.bd mixed Try.func66 rfl ?_
  refine evl ?_
  refine ⟨fun h => ?_, fun h => ?_⟩
  · have hne : l.length ≠ l'.length := by simp at h; omega
    refine Fin.nt Try.results66 [] ?_ ?_ ?_ <;> try trivial
    first | exact True.intro | (refine rsl ?_; try exact True.intro)
    symm; rw [decide_eq_false_iff_not]
    intro e; exact hne (by rw [e])
  have hlen : l.length = l'.length := by simp at h; omega
  refine LoopK_intro (fun n s => ∃ i : Nat, i ≤ l.length ∧ n = l.length - i ∧ l.take i = l'.take i ∧ s = mkSt [(5, .one (.dat (.int .i64 i))), (1, .one (.dat (.sl 3 (l'.map encCmd)))), (0, .one (.dat (.sl 3 (l.map encCmd))))] []) l.length _
    (Ent.weak (ids := []) (by simp) rfl (by simp) ?_ ?_ ?_) ⟨0, by omega, by omega, rfl, rfl⟩ ?_
  · simp [objsLe, St.obj, find, AObj.renF]
  · simp [envLe, find, AV.renF, AV.renF1, Leaf.renF]
  · simp [LowAll, AV.Low, AV.Low1, Leaf.Low, AObj.Low]
  rintro n s ⟨i, hi, rfl, ht, rfl⟩ K hK
  refine evl ?_
  refine ⟨fun h => ?_, fun h => ?_⟩
  · have hlt : i < l.length := by simpa using h
    have hlt' : i < l'.length := by omega
    refine ⟨⟨by omega, by omega⟩, hlt, ⟨by omega, by omega⟩, hlt', ?_⟩
    simp only [getD_map hlt, getD_map hlt', encCmd, List.map_cons, List.map_nil, List.take_succ_cons, List.take_zero]
    first
      | refine CCallK_intro e96 (fun _ => ⟨trivial, c96 l[i] l'[i]⟩) rfl rfl ?_
      | refine Or.inl (CCallK_intro e96 (fun _ => ⟨trivial, c96 l[i] l'[i]⟩) rfl rfl ?_)
    simp (maxSteps := 2000000) only [go_sem, ↓reduceIte, reduceCtorEq, Nat.reduceAdd, Nat.reduceMul, Nat.reduceSub, Nat.reduceLT, Nat.reduceLeDiff, Nat.reduceEqDiff, Int.reduceToNat, Int.reduceLT, Int.reduceLE, Int.reduceNeg, wrap_succ hlt hl]
    refine ⟨fun h => ?_, fun h => ?_⟩
    · apply hK
      refine evl ?_
      refine Fin.nt Try.results66 [] ?_ ?_ ?_ <;> try trivial
      first | exact True.intro | (refine rsl ?_; try exact True.intro)
      symm; rw [decide_eq_false_iff_not]
      rintro rfl; simp at h
    · apply hK
      have he : l[i] = l'[i] := by simpa using h
      refine ⟨l.length - (i + 1), _, by omega, Ent.weak (ids := []) (by simp) rfl (by simp) ?_ ?_ ?_, i + 1, by omega, rfl, ?_, rfl⟩
      · simp [objsLe, St.obj, find, AObj.renF]
      · simp [envLe, find, AV.renF, AV.renF1, Leaf.renF]
      · simp [LowAll, AV.Low, AV.Low1, Leaf.Low, AObj.Low]
      · rw [List.take_succ_eq_append_getElem hlt, List.take_succ_eq_append_getElem hlt', ht, he]
  · have hge : i = l.length := by simp at h; omega
    subst hge
    apply hK
    refine evl ?_
    refine Fin.nt Try.results66 [] ?_ ?_ ?_ <;> try trivial
    first | exact True.intro | (refine rsl ?_; try exact True.intro)
    symm; rw [decide_eq_true_iff]
    rw [List.take_of_length_le (Nat.le_refl _), List.take_of_length_le (by omega)] at ht
    exact ht
def markCmd (k : Int) : Cmd := ⟨k, k + 1, k + 1 + 1⟩
def markCmds (k : Int) (n : Nat) : List (List D) := (List.range n).map fun i => encCmd (markCmd (k + 3 * (i : Nat)))
theorem markCmds_length (k : Int) (n : Nat) : (markCmds k n).length = n := by simp [markCmds]
theorem c33 (l : List Cmd) (k : Int) (hk0 : 0 ≤ k) (hk : k + 3 * l.length ≤ 4611686018427387904) : Ctr Try.prog 33 [.one (.own 0), .one (.dat (.int .i64 k))] [.vec 3 true (l.map encCmd)] (.one (.dat (.int .i64 (k + 3 * l.length)))) [.vec 3 true (markCmds k l.length)] := by
  refine Ctr.of_body mixed Try.func33 rfl (by kernel_rfl) (Nat.le_of_ble_eq_true rfl) (by simp [AV.Clean, AV.Clean1, Leaf.Clean, D.flat]) (by simp [AObj.Sep]) (by simp) ?_ (by simp [AV.Low, AV.Low1, Leaf.Low]) ?_
  · intro o ho
    have : o = 0 := by simpa using ho
    subst this
    simp [Objs, Compat, markCmds]
  show wpA _ _ _ (FinQ _ _ _ _ _) _
  unfold markCmds
  refine evl ?_
  refine LoopK_intro (fun n s => ∃ i : Nat, i ≤ l.length ∧ n = l.length - i ∧ s = mkSt [(5, .one (.dat (.int .i64 i))), (1, .one (.dat (.int .i64 (k + 3 * (i : Nat))))), (0, .one (.own 0))]
      [.vec 3 true ((List.range i).map (fun i => encCmd (markCmd (k + 3 * (i : Nat)))) ++ (l.drop i).map encCmd)]) l.length _
    (Ent.weak (ids := [0]) (by simp) rfl (by simp) (by simp [objsLe, envLe, find, St.obj, AObj.renF, AV.renF, AV.renF1, Leaf.renF, LowAll, AV.Low, AV.Low1, Leaf.Low, AObj.Low, Ptr.renF, Ptr.Low]) (by simp [objsLe, envLe, find, St.obj, AObj.renF, AV.renF, AV.renF1, Leaf.renF, LowAll, AV.Low, AV.Low1, Leaf.Low, AObj.Low, Ptr.renF, Ptr.Low]) (by simp [objsLe, envLe, find, St.obj, AObj.renF, AV.renF, AV.renF1, Leaf.renF, LowAll, AV.Low, AV.Low1, Leaf.Low, AObj.Low, Ptr.renF, Ptr.Low])) ⟨0, by omega, by omega, rfl⟩ ?_
  rintro n s ⟨i, hi, rfl, rfl⟩ K hK
  have hlen : ((List.range i).map (fun i => encCmd (markCmd (k + 3 * (i : Nat)))) ++ (l.drop i).map encCmd).length = l.length := by simp; omega
  rcases Nat.lt_or_ge i l.length with hlt | hge
  · have hA : ((List.range i).map (fun i => encCmd (markCmd (k + 3 * (i : Nat))))).length = i := by simp
    have hd : decide ((i : Int) < l.length) = true := by simpa using hlt
    have hw := wrap_succ hlt (show l.length ≤ maxLen by unfold maxLen; omega)
    have hw1 : IntKind.i64.wrap (k + 3 * (i : Int) + 1) = k + 3 * (i : Int) + 1 := by rw [IntKind.wrap_i64]; omega
    have hw2 : IntKind.i64.wrap (k + 3 * (i : Int) + 1 + 1) = k + 3 * (i : Int) + 1 + 1 := by rw [IntKind.wrap_i64]; omega
    have hw3 : IntKind.i64.wrap (k + 3 * (i : Int) + 1 + 1 + 1) = k + 3 * (i : Int) + 1 + 1 + 1 := by rw [IntKind.wrap_i64]; omega
    rw [List.drop_eq_getElem_cons hlt, List.map_cons] at hlen ⊢
    generalize hAd : (List.range i).map (fun i => encCmd (markCmd (k + 3 * (i : Nat)))) = A at hA hlen ⊢
    have hl1 : ∀ x, (A ++ x :: (l.drop (i + 1)).map encCmd).length = l.length := fun x => by
      rw [List.length_append, List.length_cons] at hlen ⊢; exact hlen
    simp (maxSteps := 2000000) only [go_sem, ↓reduceIte, reduceCtorEq, Nat.reduceAdd, Nat.reduceMul, Nat.reduceSub, Nat.reduceLT, Nat.reduceLeDiff, Nat.reduceEqDiff, Int.reduceToNat, Int.reduceLT, Int.reduceLE, Int.reduceNeg, hl1, hd, set_mid hA, getD_mid hA, encCmd, hw, hw1, hw2, hw3, D.flat]
    repeat' ((with_reducible show _ ∧ _); apply And.intro)
    all_goals first
      | (with_reducible exact hlt)
      | omega
      | (exact (by decide : ((3 : Int) = 0 → False)))
      | skip
    apply hK
    refine ⟨l.length - (i + 1), _, by omega, Ent.weak (ids := [0]) (by simp) rfl (by simp) ?_ ?_ (by simp [objsLe, envLe, find, St.obj, AObj.renF, AV.renF, AV.renF1, Leaf.renF, LowAll, AV.Low, AV.Low1, Leaf.Low, AObj.Low, Ptr.renF, Ptr.Low]), i + 1, by omega, rfl, rfl⟩
    · rw [List.range_succ, List.map_append, hAd]
      simp [objsLe, envLe, find, St.obj, AObj.renF, AV.renF, AV.renF1, Leaf.renF, LowAll, AV.Low, AV.Low1, Leaf.Low, AObj.Low, Ptr.renF, Ptr.Low]
      rfl
    · simp [objsLe, envLe, find, St.obj, AObj.renF, AV.renF, AV.renF1, Leaf.renF, LowAll, AV.Low, AV.Low1, Leaf.Low, AObj.Low, Ptr.renF, Ptr.Low]
      omega
  · have hge' : i = l.length := by omega
    subst hge'
    have hd : decide ((l.length : Int) < l.length) = false := by simp
    simp (maxSteps := 2000000) only [go_sem, ↓reduceIte, reduceCtorEq, Nat.reduceAdd, Nat.reduceMul, Nat.reduceSub, Nat.reduceLT, Nat.reduceLeDiff, Nat.reduceEqDiff, Int.reduceToNat, Int.reduceLT, Int.reduceLE, Int.reduceNeg, hlen, hd]
    apply hK
    refine evl ?_
    refine Fin.nt Try.results33 [0] ?_ ?_ ?_ <;> try trivial
    rw [List.drop_length, List.map_nil, List.append_nil]
    simp [objsLe, envLe, find, St.obj, AObj.renF, AV.renF, AV.renF1, Leaf.renF, LowAll, AV.Low, AV.Low1, Leaf.Low, AObj.Low, Ptr.renF, Ptr.Low]
structure Bkt where
  Head : Int
  Ver : Int
  Lock : Int
  deriving DecidableEq
def encBkt (x : Bkt) : List D := [.int .i64 x.Head, .int .i64 x.Ver, .int .i64 x.Lock]
def Bkt.wf (x : Bkt) : Prop := (Lit.int .i64 x.Head).wf = true ∧ (Lit.int .i64 x.Ver).wf = true ∧ (Lit.int .i64 x.Lock).wf = true ∧ True
theorem Bkt.eq_iff (x y : Bkt) : x = y ↔ x.Head = y.Head ∧ x.Ver = y.Ver ∧ x.Lock = y.Lock := by cases x; cases y; simp
def markBkt (k : Int) : Bkt := ⟨k, k + 1, k + 1 + 1⟩
def markBkts (k : Int) (n : Nat) : List (List D) := (List.range n).map fun i => encBkt (markBkt (k + 3 * (i : Nat)))
theorem markBkts_length (k : Int) (n : Nat) : (markBkts k n).length = n := by simp [markBkts]
structure Node where
  Key : Int
  Val : Int
  Next : Int
  deriving DecidableEq
def encNode (x : Node) : List D := [.int .i64 x.Key, .int .i64 x.Val, .int .i64 x.Next]
def Node.wf (x : Node) : Prop := (Lit.int .i64 x.Key).wf = true ∧ (Lit.int .i64 x.Val).wf = true ∧ (Lit.int .i64 x.Next).wf = true ∧ True
theorem Node.eq_iff (x y : Node) : x = y ↔ x.Key = y.Key ∧ x.Val = y.Val ∧ x.Next = y.Next := by cases x; cases y; simp
def markNode (k : Int) : Node := ⟨k, k + 1, k + 1 + 1⟩
def markNodes (k : Int) (n : Nat) : List (List D) := (List.range n).map fun i => encNode (markNode (k + 3 * (i : Nat)))
theorem markNodes_length (k : Int) (n : Nat) : (markNodes k n).length = n := by simp [markNodes]
structure LRow where
  Handle : Int
  Epoch : Int
  deriving DecidableEq
def encLRow (x : LRow) : List D := [.int .i64 x.Handle, .int .i64 x.Epoch]
def LRow.wf (x : LRow) : Prop := (Lit.int .i64 x.Handle).wf = true ∧ (Lit.int .i64 x.Epoch).wf = true ∧ True
theorem LRow.eq_iff (x y : LRow) : x = y ↔ x.Handle = y.Handle ∧ x.Epoch = y.Epoch := by cases x; cases y; simp
theorem c152 (x : LRow) : Ctr Try.prog 152 [.agg ((encLRow x).map .dat)] [] (.agg ((encLRow x).map .dat)) [] := by
  simp only [encLRow, List.map_cons, List.map_nil]
  refine Ctr.bd mixed Try.func152 rfl ?_
  refine evl ?_
  repeat' first
    | ((with_reducible show Abs.Fin _ _ _ _ _ _); refine Fin.nt Try.results152 [] ?_ ?_ ?_ <;> try trivial)
    | with_reducible intro h
    | ((with_reducible show _ ∧ _); apply And.intro)
  all_goals first | rfl | simp
theorem c138 (l : List LRow) (hl : l.length ≤ 1048576) : Ctr Try.prog 138 [.one (.dat (.sl 2 (l.map encLRow)))] [] (.one (.own 0)) [.vec 2 true (l.map encLRow)] := by
  refine Ctr.bd mixed Try.func138 rfl ?_
  refine evl ?_
  refine ⟨by omega, ?_⟩
  refine LoopK_intro (fun n s => ∃ i : Nat, i ≤ l.length ∧ n = l.length - i ∧ s = mkSt [(4, .one (.dat (.int .i64 i))), (3, .one (.own 0)), (0, .one (.dat (.sl 2 (l.map encLRow))))]
      [.vec 2 true ((l.take i).map encLRow ++ List.replicate (l.length - i) [.int .i64 0, .int .i64 0])]) l.length _
    (Ent.weak (ids := [0]) (by simp) rfl (by simp) ?_ ?_ ?_) ⟨0, by omega, by omega, rfl⟩ ?_
  · simp [objsLe, St.obj, find, AObj.renF]
  · simp [envLe, find, AV.renF, AV.renF1, Leaf.renF]
  · simp [LowAll, AV.Low, AV.Low1, Leaf.Low, AObj.Low]
  rintro n s ⟨i, hi, rfl, rfl⟩ K hK
  refine evl ?_
  refine ⟨fun h => ?_, fun h => ?_⟩
  · have hlt : i < l.length := by simpa using h
    refine ⟨⟨by omega, by omega⟩, hlt, ?_⟩
    simp only [getD_map hlt, encLRow, List.map_cons, List.map_nil, List.take_succ_cons, List.take_zero]
    refine CallK_pure e152 (c152 l[i]) rfl ?_
    simp (maxSteps := 2000000) only [go_sem, ↓reduceIte, reduceCtorEq, Nat.reduceAdd, Nat.reduceMul, Nat.reduceSub, Nat.reduceLT, Nat.reduceLeDiff, Nat.reduceEqDiff, Int.reduceToNat, Int.reduceLT, Int.reduceLE, Int.reduceNeg, encLRow, D.flat, wrap_succ hlt (le20 hl)]
    refine ⟨by simp; omega, by simp; omega, ?_⟩
    apply hK
    refine ⟨l.length - (i + 1), _, by omega, Ent.weak (ids := [0]) (by simp) rfl (by simp) ?_ ?_ ?_, i + 1, by omega, rfl, rfl⟩
    · simp only [objsLe, St.obj, find, AObj.renF, if_true, Option.getD_some, List.getD_cons_zero, and_true]
      rw [← take_set encLRow l _ hlt]
      exact ⟨Nat.zero_lt_one, Or.inr rfl⟩
    · simp [envLe, find, AV.renF, AV.renF1, Leaf.renF]
    · simp [LowAll, AV.Low, AV.Low1, Leaf.Low, AObj.Low]
  · have hge : i = l.length := by simp at h; omega
    subst hge
    apply hK
    refine evl ?_
    refine Fin.nt Try.results138 [0] ?_ ?_ ?_ <;> try trivial
    all_goals simp [objsLe, St.obj, find, AObj.renF]
theorem c135 (rows : List (List D)) (left : Int) (h0 : 0 ≤ left) (h1 : left ≤ 1048576) (hl : rows.length ≤ maxLen) : Ctr Try.prog 135 [.one (.dat (.sl 2 rows)), .one (.dat (.int .i64 left))] [] (.one (.dat (.int .i64 (szL left rows.length)))) [] := by
  have hw := szL_wrap h0 h1 hl
  refine Ctr.bd mixed Try.func135 rfl ?_
  simp (maxSteps := 2000000) only [go_sem, ↓reduceIte, reduceCtorEq, Nat.reduceAdd, Nat.reduceMul, Nat.reduceSub, Nat.reduceLT, Nat.reduceLeDiff, Nat.reduceEqDiff, Int.reduceToNat, Int.reduceLT, Int.reduceLE, Int.reduceNeg, hw]
  repeat' first
    | ((with_reducible show Abs.Fin _ _ _ _ _ _); refine Fin.nt Try.results135 [] ?_ ?_ ?_ <;> try trivial)
    | with_reducible intro h
    | ((with_reducible show _ ∧ _); apply And.intro)
  all_goals try (first | exact True.intro | (refine rsl ?_; try exact True.intro))
  all_goals simp_all [szL]
  all_goals omega
theorem c154 (x y : LRow) : Ctr Try.prog 154 [.agg ((encLRow x).map .dat), .agg ((encLRow y).map .dat)] [] (.one (.dat (.bool (decide (x = y))))) [] := by
  simp only [encLRow, List.map_cons, List.map_nil]
  refine Ctr.bd mixed Try.func154 rfl ?_
  refine evl ?_
  repeat' first
    | ((with_reducible show Abs.Fin _ _ _ _ _ _); refine Fin.nt Try.results154 [] ?_ ?_ ?_ <;> try trivial)
    | with_reducible intro h
    | ((with_reducible show _ ∧ _); apply And.intro)
  all_goals try (first | exact True.intro | (refine rsl ?_; try exact True.intro))
  all_goals simp_all [LRow.eq_iff]
theorem c141 (l l' : List LRow) (hl : l.length ≤ maxLen) (hl' : l'.length ≤ maxLen) : Ctr Try.prog 141 [.one (.dat (.sl 2 (l.map encLRow))), .one (.dat (.sl 2 (l'.map encLRow)))] [] (.one (.dat (.bool (decide (l = l'))))) [] := by
  refine Ctr.bd mixed Try.func141 rfl ?_
  refine evl ?_
  refine ⟨fun h => ?_, fun h => ?_⟩
  · have hne : l.length ≠ l'.length := by simp at h; omega
    refine Fin.nt Try.results141 [] ?_ ?_ ?_ <;> try trivial
    first | exact True.intro | (refine rsl ?_; try exact True.intro)
    symm; rw [decide_eq_false_iff_not]
    intro e; exact hne (by rw [e])
  have hlen : l.length = l'.length := by simp at h; omega
  refine LoopK_intro (fun n s => ∃ i : Nat, i ≤ l.length ∧ n = l.length - i ∧ l.take i = l'.take i ∧ s = mkSt [(5, .one (.dat (.int .i64 i))), (1, .one (.dat (.sl 2 (l'.map encLRow)))), (0, .one (.dat (.sl 2 (l.map encLRow))))] []) l.length _
    (Ent.weak (ids := []) (by simp) rfl (by simp) ?_ ?_ ?_) ⟨0, by omega, by omega, rfl, rfl⟩ ?_
  · simp [objsLe, St.obj, find, AObj.renF]
  · simp [envLe, find, AV.renF, AV.renF1, Leaf.renF]
  · simp [LowAll, AV.Low, AV.Low1, Leaf.Low, AObj.Low]
  rintro n s ⟨i, hi, rfl, ht, rfl⟩ K hK
  refine evl ?_
  refine ⟨fun h => ?_, fun h => ?_⟩
  · have hlt : i < l.length := by simpa using h
    have hlt' : i < l'.length := by omega
    refine ⟨⟨by omega, by omega⟩, hlt, ⟨by omega, by omega⟩, hlt', ?_⟩
    simp only [getD_map hlt, getD_map hlt', encLRow, List.map_cons, List.map_nil, List.take_succ_cons, List.take_zero]
    first
      | refine CCallK_intro e154 (fun _ => ⟨trivial, c154 l[i] l'[i]⟩) rfl rfl ?_
      | refine Or.inl (CCallK_intro e154 (fun _ => ⟨trivial, c154 l[i] l'[i]⟩) rfl rfl ?_)
    simp (maxSteps := 2000000) only [go_sem, ↓reduceIte, reduceCtorEq, Nat.reduceAdd, Nat.reduceMul, Nat.reduceSub, Nat.reduceLT, Nat.reduceLeDiff, Nat.reduceEqDiff, Int.reduceToNat, Int.reduceLT, Int.reduceLE, Int.reduceNeg, wrap_succ hlt hl]
    refine ⟨fun h => ?_, fun h => ?_⟩
    · apply hK
      refine evl ?_
      refine Fin.nt Try.results141 [] ?_ ?_ ?_ <;> try trivial
      first | exact True.intro | (refine rsl ?_; try exact True.intro)
      symm; rw [decide_eq_false_iff_not]
      rintro rfl; simp at h
    · apply hK
      have he : l[i] = l'[i] := by simpa using h
      refine ⟨l.length - (i + 1), _, by omega, Ent.weak (ids := []) (by simp) rfl (by simp) ?_ ?_ ?_, i + 1, by omega, rfl, ?_, rfl⟩
      · simp [objsLe, St.obj, find, AObj.renF]
      · simp [envLe, find, AV.renF, AV.renF1, Leaf.renF]
      · simp [LowAll, AV.Low, AV.Low1, Leaf.Low, AObj.Low]
      · rw [List.take_succ_eq_append_getElem hlt, List.take_succ_eq_append_getElem hlt', ht, he]
  · have hge : i = l.length := by simp at h; omega
    subst hge
    apply hK
    refine evl ?_
    refine Fin.nt Try.results141 [] ?_ ?_ ?_ <;> try trivial
    first | exact True.intro | (refine rsl ?_; try exact True.intro)
    symm; rw [decide_eq_true_iff]
    rw [List.take_of_length_le (Nat.le_refl _), List.take_of_length_le (by omega)] at ht
    exact ht
def markLRow (k : Int) : LRow := ⟨k, k + 1⟩
def markLRows (k : Int) (n : Nat) : List (List D) := (List.range n).map fun i => encLRow (markLRow (k + 2 * (i : Nat)))
theorem markLRows_length (k : Int) (n : Nat) : (markLRows k n).length = n := by simp [markLRows]
theorem c120 (l : List LRow) (k : Int) (hk0 : 0 ≤ k) (hk : k + 2 * l.length ≤ 4611686018427387904) : Ctr Try.prog 120 [.one (.own 0), .one (.dat (.int .i64 k))] [.vec 2 true (l.map encLRow)] (.one (.dat (.int .i64 (k + 2 * l.length)))) [.vec 2 true (markLRows k l.length)] := by
  refine Ctr.of_body mixed Try.func120 rfl (by kernel_rfl) (Nat.le_of_ble_eq_true rfl) (by simp [AV.Clean, AV.Clean1, Leaf.Clean, D.flat]) (by simp [AObj.Sep]) (by simp) ?_ (by simp [AV.Low, AV.Low1, Leaf.Low]) ?_
  · intro o ho
    have : o = 0 := by simpa using ho
    subst this
    simp [Objs, Compat, markLRows]
  show wpA _ _ _ (FinQ _ _ _ _ _) _
  unfold markLRows
  refine evl ?_
  refine LoopK_intro (fun n s => ∃ i : Nat, i ≤ l.length ∧ n = l.length - i ∧ s = mkSt [(5, .one (.dat (.int .i64 i))), (1, .one (.dat (.int .i64 (k + 2 * (i : Nat))))), (0, .one (.own 0))]
      [.vec 2 true ((List.range i).map (fun i => encLRow (markLRow (k + 2 * (i : Nat)))) ++ (l.drop i).map encLRow)]) l.length _
    (Ent.weak (ids := [0]) (by simp) rfl (by simp) (by simp [objsLe, envLe, find, St.obj, AObj.renF, AV.renF, AV.renF1, Leaf.renF, LowAll, AV.Low, AV.Low1, Leaf.Low, AObj.Low, Ptr.renF, Ptr.Low]) (by simp [objsLe, envLe, find, St.obj, AObj.renF, AV.renF, AV.renF1, Leaf.renF, LowAll, AV.Low, AV.Low1, Leaf.Low, AObj.Low, Ptr.renF, Ptr.Low]) (by simp [objsLe, envLe, find, St.obj, AObj.renF, AV.renF, AV.renF1, Leaf.renF, LowAll, AV.Low, AV.Low1, Leaf.Low, AObj.Low, Ptr.renF, Ptr.Low])) ⟨0, by omega, by omega, rfl⟩ ?_
  rintro n s ⟨i, hi, rfl, rfl⟩ K hK
  have hlen : ((List.range i).map (fun i => encLRow (markLRow (k + 2 * (i : Nat)))) ++ (l.drop i).map encLRow).length = l.length := by simp; omega
  rcases Nat.lt_or_ge i l.length with hlt | hge
  · have hA : ((List.range i).map (fun i => encLRow (markLRow (k + 2 * (i : Nat))))).length = i := by simp
    have hd : decide ((i : Int) < l.length) = true := by simpa using hlt
    have hw := wrap_succ hlt (show l.length ≤ maxLen by unfold maxLen; omega)
    have hw1 : IntKind.i64.wrap (k + 2 * (i : Int) + 1) = k + 2 * (i : Int) + 1 := by rw [IntKind.wrap_i64]; omega
    have hw2 : IntKind.i64.wrap (k + 2 * (i : Int) + 1 + 1) = k + 2 * (i : Int) + 1 + 1 := by rw [IntKind.wrap_i64]; omega
    rw [List.drop_eq_getElem_cons hlt, List.map_cons] at hlen ⊢
    generalize hAd : (List.range i).map (fun i => encLRow (markLRow (k + 2 * (i : Nat)))) = A at hA hlen ⊢
    have hl1 : ∀ x, (A ++ x :: (l.drop (i + 1)).map encLRow).length = l.length := fun x => by
      rw [List.length_append, List.length_cons] at hlen ⊢; exact hlen
    simp (maxSteps := 2000000) only [go_sem, ↓reduceIte, reduceCtorEq, Nat.reduceAdd, Nat.reduceMul, Nat.reduceSub, Nat.reduceLT, Nat.reduceLeDiff, Nat.reduceEqDiff, Int.reduceToNat, Int.reduceLT, Int.reduceLE, Int.reduceNeg, hl1, hd, set_mid hA, getD_mid hA, encLRow, hw, hw1, hw2, D.flat]
    repeat' ((with_reducible show _ ∧ _); apply And.intro)
    all_goals first
      | (with_reducible exact hlt)
      | omega
      | (exact (by decide : ((3 : Int) = 0 → False)))
      | skip
    apply hK
    refine ⟨l.length - (i + 1), _, by omega, Ent.weak (ids := [0]) (by simp) rfl (by simp) ?_ ?_ (by simp [objsLe, envLe, find, St.obj, AObj.renF, AV.renF, AV.renF1, Leaf.renF, LowAll, AV.Low, AV.Low1, Leaf.Low, AObj.Low, Ptr.renF, Ptr.Low]), i + 1, by omega, rfl, rfl⟩
    · rw [List.range_succ, List.map_append, hAd]
      simp [objsLe, envLe, find, St.obj, AObj.renF, AV.renF, AV.renF1, Leaf.renF, LowAll, AV.Low, AV.Low1, Leaf.Low, AObj.Low, Ptr.renF, Ptr.Low]
      rfl
    · simp [objsLe, envLe, find, St.obj, AObj.renF, AV.renF, AV.renF1, Leaf.renF, LowAll, AV.Low, AV.Low1, Leaf.Low, AObj.Low, Ptr.renF, Ptr.Low]
      omega
  · have hge' : i = l.length := by omega
    subst hge'
    have hd : decide ((l.length : Int) < l.length) = false := by simp
    simp (maxSteps := 2000000) only [go_sem, ↓reduceIte, reduceCtorEq, Nat.reduceAdd, Nat.reduceMul, Nat.reduceSub, Nat.reduceLT, Nat.reduceLeDiff, Nat.reduceEqDiff, Int.reduceToNat, Int.reduceLT, Int.reduceLE, Int.reduceNeg, hlen, hd]
    apply hK
    refine evl ?_
    refine Fin.nt Try.results120 [0] ?_ ?_ ?_ <;> try trivial
    rw [List.drop_length, List.map_nil, List.append_nil]
    simp [objsLe, envLe, find, St.obj, AObj.renF, AV.renF, AV.renF1, Leaf.renF, LowAll, AV.Low, AV.Low1, Leaf.Low, AObj.Low, Ptr.renF, Ptr.Low]
structure Op where
  Kind : Int
  Cell : Int
  Size : Int
  Val : Int
  deriving DecidableEq
def encOp (x : Op) : List D := [.int .i64 x.Kind, .int .i64 x.Cell, .int .i64 x.Size, .int .i64 x.Val]
def Op.wf (x : Op) : Prop := (Lit.int .i64 x.Kind).wf = true ∧ (Lit.int .i64 x.Cell).wf = true ∧ (Lit.int .i64 x.Size).wf = true ∧ (Lit.int .i64 x.Val).wf = true ∧ True
theorem Op.eq_iff (x y : Op) : x = y ↔ x.Kind = y.Kind ∧ x.Cell = y.Cell ∧ x.Size = y.Size ∧ x.Val = y.Val := by cases x; cases y; simp
theorem c107 (x : Op) : Ctr Try.prog 107 [.agg ((encOp x).map .dat)] [] (.agg ((encOp x).map .dat)) [] := by
  simp only [encOp, List.map_cons, List.map_nil]
  refine Ctr.bd mixed Try.func107 rfl ?_
  refine evl ?_
  repeat' first
    | ((with_reducible show Abs.Fin _ _ _ _ _ _); refine Fin.nt Try.results107 [] ?_ ?_ ?_ <;> try trivial)
    | with_reducible intro h
    | ((with_reducible show _ ∧ _); apply And.intro)
  all_goals first | rfl | simp
theorem c109 (l : List Op) (hl : l.length ≤ 1048576) : Ctr Try.prog 109 [.one (.dat (.sl 4 (l.map encOp)))] [] (.one (.own 0)) [.vec 4 true (l.map encOp)] := by
  refine Ctr.bd mixed Try.func109 rfl ?_
  refine evl ?_
  refine ⟨by omega, ?_⟩
  refine LoopK_intro (fun n s => ∃ i : Nat, i ≤ l.length ∧ n = l.length - i ∧ s = mkSt [(4, .one (.dat (.int .i64 i))), (3, .one (.own 0)), (0, .one (.dat (.sl 4 (l.map encOp))))]
      [.vec 4 true ((l.take i).map encOp ++ List.replicate (l.length - i) [.int .i64 0, .int .i64 0, .int .i64 0, .int .i64 0])]) l.length _
    (Ent.weak (ids := [0]) (by simp) rfl (by simp) ?_ ?_ ?_) ⟨0, by omega, by omega, rfl⟩ ?_
  · simp [objsLe, St.obj, find, AObj.renF]
  · simp [envLe, find, AV.renF, AV.renF1, Leaf.renF]
  · simp [LowAll, AV.Low, AV.Low1, Leaf.Low, AObj.Low]
  rintro n s ⟨i, hi, rfl, rfl⟩ K hK
  refine evl ?_
  refine ⟨fun h => ?_, fun h => ?_⟩
  · have hlt : i < l.length := by simpa using h
    refine ⟨⟨by omega, by omega⟩, hlt, ?_⟩
    simp only [getD_map hlt, encOp, List.map_cons, List.map_nil, List.take_succ_cons, List.take_zero]
    refine CallK_pure e107 (c107 l[i]) rfl ?_
    simp (maxSteps := 2000000) only [go_sem, ↓reduceIte, reduceCtorEq, Nat.reduceAdd, Nat.reduceMul, Nat.reduceSub, Nat.reduceLT, Nat.reduceLeDiff, Nat.reduceEqDiff, Int.reduceToNat, Int.reduceLT, Int.reduceLE, Int.reduceNeg, encOp, D.flat, wrap_succ hlt (le20 hl)]
    refine ⟨by simp; omega, by simp; omega, ?_⟩
    apply hK
    refine ⟨l.length - (i + 1), _, by omega, Ent.weak (ids := [0]) (by simp) rfl (by simp) ?_ ?_ ?_, i + 1, by omega, rfl, rfl⟩
    · simp only [objsLe, St.obj, find, AObj.renF, if_true, Option.getD_some, List.getD_cons_zero, and_true]
      rw [← take_set encOp l _ hlt]
      exact ⟨Nat.zero_lt_one, Or.inr rfl⟩
    · simp [envLe, find, AV.renF, AV.renF1, Leaf.renF]
    · simp [LowAll, AV.Low, AV.Low1, Leaf.Low, AObj.Low]
  · have hge : i = l.length := by simp at h; omega
    subst hge
    apply hK
    refine evl ?_
    refine Fin.nt Try.results109 [0] ?_ ?_ ?_ <;> try trivial
    all_goals simp [objsLe, St.obj, find, AObj.renF]
theorem c102 (rows : List (List D)) (left : Int) (h0 : 0 ≤ left) (h1 : left ≤ 1048576) (hl : rows.length ≤ maxLen) : Ctr Try.prog 102 [.one (.dat (.sl 4 rows)), .one (.dat (.int .i64 left))] [] (.one (.dat (.int .i64 (szL left rows.length)))) [] := by
  have hw := szL_wrap h0 h1 hl
  refine Ctr.bd mixed Try.func102 rfl ?_
  simp (maxSteps := 2000000) only [go_sem, ↓reduceIte, reduceCtorEq, Nat.reduceAdd, Nat.reduceMul, Nat.reduceSub, Nat.reduceLT, Nat.reduceLeDiff, Nat.reduceEqDiff, Int.reduceToNat, Int.reduceLT, Int.reduceLE, Int.reduceNeg, hw]
  repeat' first
    | ((with_reducible show Abs.Fin _ _ _ _ _ _); refine Fin.nt Try.results102 [] ?_ ?_ ?_ <;> try trivial)
    | with_reducible intro h
    | ((with_reducible show _ ∧ _); apply And.intro)
  all_goals try (first | exact True.intro | (refine rsl ?_; try exact True.intro))
  all_goals simp_all [szL]
  all_goals omega
theorem c114 (x y : Op) : Ctr Try.prog 114 [.agg ((encOp x).map .dat), .agg ((encOp y).map .dat)] [] (.one (.dat (.bool (decide (x = y))))) [] := by
  simp only [encOp, List.map_cons, List.map_nil]
  refine Ctr.bd mixed Try.func114 rfl ?_
  refine evl ?_
  repeat' first
    | ((with_reducible show Abs.Fin _ _ _ _ _ _); refine Fin.nt Try.results114 [] ?_ ?_ ?_ <;> try trivial)
    | with_reducible intro h
    | ((with_reducible show _ ∧ _); apply And.intro)
  all_goals try (first | exact True.intro | (refine rsl ?_; try exact True.intro))
  all_goals simp_all [Op.eq_iff]
theorem c116 (l l' : List Op) (hl : l.length ≤ maxLen) (hl' : l'.length ≤ maxLen) : Ctr Try.prog 116 [.one (.dat (.sl 4 (l.map encOp))), .one (.dat (.sl 4 (l'.map encOp)))] [] (.one (.dat (.bool (decide (l = l'))))) [] := by
  refine Ctr.bd mixed Try.func116 rfl ?_
  refine evl ?_
  refine ⟨fun h => ?_, fun h => ?_⟩
  · have hne : l.length ≠ l'.length := by simp at h; omega
    refine Fin.nt Try.results116 [] ?_ ?_ ?_ <;> try trivial
    first | exact True.intro | (refine rsl ?_; try exact True.intro)
    symm; rw [decide_eq_false_iff_not]
    intro e; exact hne (by rw [e])
  have hlen : l.length = l'.length := by simp at h; omega
  refine LoopK_intro (fun n s => ∃ i : Nat, i ≤ l.length ∧ n = l.length - i ∧ l.take i = l'.take i ∧ s = mkSt [(5, .one (.dat (.int .i64 i))), (1, .one (.dat (.sl 4 (l'.map encOp)))), (0, .one (.dat (.sl 4 (l.map encOp))))] []) l.length _
    (Ent.weak (ids := []) (by simp) rfl (by simp) ?_ ?_ ?_) ⟨0, by omega, by omega, rfl, rfl⟩ ?_
  · simp [objsLe, St.obj, find, AObj.renF]
  · simp [envLe, find, AV.renF, AV.renF1, Leaf.renF]
  · simp [LowAll, AV.Low, AV.Low1, Leaf.Low, AObj.Low]
  rintro n s ⟨i, hi, rfl, ht, rfl⟩ K hK
  refine evl ?_
  refine ⟨fun h => ?_, fun h => ?_⟩
  · have hlt : i < l.length := by simpa using h
    have hlt' : i < l'.length := by omega
    refine ⟨⟨by omega, by omega⟩, hlt, ⟨by omega, by omega⟩, hlt', ?_⟩
    simp only [getD_map hlt, getD_map hlt', encOp, List.map_cons, List.map_nil, List.take_succ_cons, List.take_zero]
    first
      | refine CCallK_intro e114 (fun _ => ⟨trivial, c114 l[i] l'[i]⟩) rfl rfl ?_
      | refine Or.inl (CCallK_intro e114 (fun _ => ⟨trivial, c114 l[i] l'[i]⟩) rfl rfl ?_)
    simp (maxSteps := 2000000) only [go_sem, ↓reduceIte, reduceCtorEq, Nat.reduceAdd, Nat.reduceMul, Nat.reduceSub, Nat.reduceLT, Nat.reduceLeDiff, Nat.reduceEqDiff, Int.reduceToNat, Int.reduceLT, Int.reduceLE, Int.reduceNeg, wrap_succ hlt hl]
    refine ⟨fun h => ?_, fun h => ?_⟩
    · apply hK
      refine evl ?_
      refine Fin.nt Try.results116 [] ?_ ?_ ?_ <;> try trivial
      first | exact True.intro | (refine rsl ?_; try exact True.intro)
      symm; rw [decide_eq_false_iff_not]
      rintro rfl; simp at h
    · apply hK
      have he : l[i] = l'[i] := by simpa using h
      refine ⟨l.length - (i + 1), _, by omega, Ent.weak (ids := []) (by simp) rfl (by simp) ?_ ?_ ?_, i + 1, by omega, rfl, ?_, rfl⟩
      · simp [objsLe, St.obj, find, AObj.renF]
      · simp [envLe, find, AV.renF, AV.renF1, Leaf.renF]
      · simp [LowAll, AV.Low, AV.Low1, Leaf.Low, AObj.Low]
      · rw [List.take_succ_eq_append_getElem hlt, List.take_succ_eq_append_getElem hlt', ht, he]
  · have hge : i = l.length := by simp at h; omega
    subst hge
    apply hK
    refine evl ?_
    refine Fin.nt Try.results116 [] ?_ ?_ ?_ <;> try trivial
    first | exact True.intro | (refine rsl ?_; try exact True.intro)
    symm; rw [decide_eq_true_iff]
    rw [List.take_of_length_le (Nat.le_refl _), List.take_of_length_le (by omega)] at ht
    exact ht
def markOp (k : Int) : Op := ⟨k, k + 1, k + 1 + 1, k + 1 + 1 + 1⟩
def markOps (k : Int) (n : Nat) : List (List D) := (List.range n).map fun i => encOp (markOp (k + 4 * (i : Nat)))
theorem markOps_length (k : Int) (n : Nat) : (markOps k n).length = n := by simp [markOps]
theorem c87 (l : List Op) (k : Int) (hk0 : 0 ≤ k) (hk : k + 4 * l.length ≤ 4611686018427387904) : Ctr Try.prog 87 [.one (.own 0), .one (.dat (.int .i64 k))] [.vec 4 true (l.map encOp)] (.one (.dat (.int .i64 (k + 4 * l.length)))) [.vec 4 true (markOps k l.length)] := by
  refine Ctr.of_body mixed Try.func87 rfl (by kernel_rfl) (Nat.le_of_ble_eq_true rfl) (by simp [AV.Clean, AV.Clean1, Leaf.Clean, D.flat]) (by simp [AObj.Sep]) (by simp) ?_ (by simp [AV.Low, AV.Low1, Leaf.Low]) ?_
  · intro o ho
    have : o = 0 := by simpa using ho
    subst this
    simp [Objs, Compat, markOps]
  show wpA _ _ _ (FinQ _ _ _ _ _) _
  unfold markOps
  refine evl ?_
  refine LoopK_intro (fun n s => ∃ i : Nat, i ≤ l.length ∧ n = l.length - i ∧ s = mkSt [(5, .one (.dat (.int .i64 i))), (1, .one (.dat (.int .i64 (k + 4 * (i : Nat))))), (0, .one (.own 0))]
      [.vec 4 true ((List.range i).map (fun i => encOp (markOp (k + 4 * (i : Nat)))) ++ (l.drop i).map encOp)]) l.length _
    (Ent.weak (ids := [0]) (by simp) rfl (by simp) (by simp [objsLe, envLe, find, St.obj, AObj.renF, AV.renF, AV.renF1, Leaf.renF, LowAll, AV.Low, AV.Low1, Leaf.Low, AObj.Low, Ptr.renF, Ptr.Low]) (by simp [objsLe, envLe, find, St.obj, AObj.renF, AV.renF, AV.renF1, Leaf.renF, LowAll, AV.Low, AV.Low1, Leaf.Low, AObj.Low, Ptr.renF, Ptr.Low]) (by simp [objsLe, envLe, find, St.obj, AObj.renF, AV.renF, AV.renF1, Leaf.renF, LowAll, AV.Low, AV.Low1, Leaf.Low, AObj.Low, Ptr.renF, Ptr.Low])) ⟨0, by omega, by omega, rfl⟩ ?_
  rintro n s ⟨i, hi, rfl, rfl⟩ K hK
  have hlen : ((List.range i).map (fun i => encOp (markOp (k + 4 * (i : Nat)))) ++ (l.drop i).map encOp).length = l.length := by simp; omega
  rcases Nat.lt_or_ge i l.length with hlt | hge
  · have hA : ((List.range i).map (fun i => encOp (markOp (k + 4 * (i : Nat))))).length = i := by simp
    have hd : decide ((i : Int) < l.length) = true := by simpa using hlt
    have hw := wrap_succ hlt (show l.length ≤ maxLen by unfold maxLen; omega)
    have hw1 : IntKind.i64.wrap (k + 4 * (i : Int) + 1) = k + 4 * (i : Int) + 1 := by rw [IntKind.wrap_i64]; omega
    have hw2 : IntKind.i64.wrap (k + 4 * (i : Int) + 1 + 1) = k + 4 * (i : Int) + 1 + 1 := by rw [IntKind.wrap_i64]; omega
    have hw3 : IntKind.i64.wrap (k + 4 * (i : Int) + 1 + 1 + 1) = k + 4 * (i : Int) + 1 + 1 + 1 := by rw [IntKind.wrap_i64]; omega
    have hw4 : IntKind.i64.wrap (k + 4 * (i : Int) + 1 + 1 + 1 + 1) = k + 4 * (i : Int) + 1 + 1 + 1 + 1 := by rw [IntKind.wrap_i64]; omega
    rw [List.drop_eq_getElem_cons hlt, List.map_cons] at hlen ⊢
    generalize hAd : (List.range i).map (fun i => encOp (markOp (k + 4 * (i : Nat)))) = A at hA hlen ⊢
    have hl1 : ∀ x, (A ++ x :: (l.drop (i + 1)).map encOp).length = l.length := fun x => by
      rw [List.length_append, List.length_cons] at hlen ⊢; exact hlen
    simp (maxSteps := 2000000) only [go_sem, ↓reduceIte, reduceCtorEq, Nat.reduceAdd, Nat.reduceMul, Nat.reduceSub, Nat.reduceLT, Nat.reduceLeDiff, Nat.reduceEqDiff, Int.reduceToNat, Int.reduceLT, Int.reduceLE, Int.reduceNeg, hl1, hd, set_mid hA, getD_mid hA, encOp, hw, hw1, hw2, hw3, hw4, D.flat]
    repeat' ((with_reducible show _ ∧ _); apply And.intro)
    all_goals first
      | (with_reducible exact hlt)
      | omega
      | (exact (by decide : ((3 : Int) = 0 → False)))
      | skip
    apply hK
    refine ⟨l.length - (i + 1), _, by omega, Ent.weak (ids := [0]) (by simp) rfl (by simp) ?_ ?_ (by simp [objsLe, envLe, find, St.obj, AObj.renF, AV.renF, AV.renF1, Leaf.renF, LowAll, AV.Low, AV.Low1, Leaf.Low, AObj.Low, Ptr.renF, Ptr.Low]), i + 1, by omega, rfl, rfl⟩
    · rw [List.range_succ, List.map_append, hAd]
      simp [objsLe, envLe, find, St.obj, AObj.renF, AV.renF, AV.renF1, Leaf.renF, LowAll, AV.Low, AV.Low1, Leaf.Low, AObj.Low, Ptr.renF, Ptr.Low]
      rfl
    · simp [objsLe, envLe, find, St.obj, AObj.renF, AV.renF, AV.renF1, Leaf.renF, LowAll, AV.Low, AV.Low1, Leaf.Low, AObj.Low, Ptr.renF, Ptr.Low]
      omega
  · have hge' : i = l.length := by omega
    subst hge'
    have hd : decide ((l.length : Int) < l.length) = false := by simp
    simp (maxSteps := 2000000) only [go_sem, ↓reduceIte, reduceCtorEq, Nat.reduceAdd, Nat.reduceMul, Nat.reduceSub, Nat.reduceLT, Nat.reduceLeDiff, Nat.reduceEqDiff, Int.reduceToNat, Int.reduceLT, Int.reduceLE, Int.reduceNeg, hlen, hd]
    apply hK
    refine evl ?_
    refine Fin.nt Try.results87 [0] ?_ ?_ ?_ <;> try trivial
    rw [List.drop_length, List.map_nil, List.append_nil]
    simp [objsLe, envLe, find, St.obj, AObj.renF, AV.renF, AV.renF1, Leaf.renF, LowAll, AV.Low, AV.Low1, Leaf.Low, AObj.Low, Ptr.renF, Ptr.Low]
structure Span where
  From : Int
  To : Int
  deriving DecidableEq
def encSpan (x : Span) : List D := [.int .i64 x.From, .int .i64 x.To]
def Span.wf (x : Span) : Prop := (Lit.int .i64 x.From).wf = true ∧ (Lit.int .i64 x.To).wf = true ∧ True
theorem Span.eq_iff (x y : Span) : x = y ↔ x.From = y.From ∧ x.To = y.To := by cases x; cases y; simp
def markSpan (k : Int) : Span := ⟨k, k + 1⟩
def markSpans (k : Int) (n : Nat) : List (List D) := (List.range n).map fun i => encSpan (markSpan (k + 2 * (i : Nat)))
theorem markSpans_length (k : Int) (n : Nat) : (markSpans k n).length = n := by simp [markSpans]
structure Pin where
  On : Bool
  Epoch : Int
  Marked : Bool
  Seen : Int
  deriving DecidableEq
def encPin (x : Pin) : List D := [.bool x.On, .int .i64 x.Epoch, .bool x.Marked, .int .i64 x.Seen]
def Pin.wf (x : Pin) : Prop := (Lit.int .i64 x.Epoch).wf = true ∧ (Lit.int .i64 x.Seen).wf = true ∧ True
theorem Pin.eq_iff (x y : Pin) : x = y ↔ x.On = y.On ∧ x.Epoch = y.Epoch ∧ x.Marked = y.Marked ∧ x.Seen = y.Seen := by cases x; cases y; simp
theorem c137 (x : Pin) : Ctr Try.prog 137 [.agg ((encPin x).map .dat)] [] (.agg ((encPin x).map .dat)) [] := by
  simp only [encPin, List.map_cons, List.map_nil]
  refine Ctr.bd mixed Try.func137 rfl ?_
  refine evl ?_
  repeat' first
    | ((with_reducible show Abs.Fin _ _ _ _ _ _); refine Fin.nt Try.results137 [] ?_ ?_ ?_ <;> try trivial)
    | with_reducible intro h
    | ((with_reducible show _ ∧ _); apply And.intro)
  all_goals first | rfl | simp
theorem c105 (l : List Pin) (hl : l.length ≤ 1048576) : Ctr Try.prog 105 [.one (.dat (.sl 4 (l.map encPin)))] [] (.one (.own 0)) [.vec 4 true (l.map encPin)] := by
  refine Ctr.bd mixed Try.func105 rfl ?_
  refine evl ?_
  refine ⟨by omega, ?_⟩
  refine LoopK_intro (fun n s => ∃ i : Nat, i ≤ l.length ∧ n = l.length - i ∧ s = mkSt [(4, .one (.dat (.int .i64 i))), (3, .one (.own 0)), (0, .one (.dat (.sl 4 (l.map encPin))))]
      [.vec 4 true ((l.take i).map encPin ++ List.replicate (l.length - i) [.bool false, .int .i64 0, .bool false, .int .i64 0])]) l.length _
    (Ent.weak (ids := [0]) (by simp) rfl (by simp) ?_ ?_ ?_) ⟨0, by omega, by omega, rfl⟩ ?_
  · simp [objsLe, St.obj, find, AObj.renF]
  · simp [envLe, find, AV.renF, AV.renF1, Leaf.renF]
  · simp [LowAll, AV.Low, AV.Low1, Leaf.Low, AObj.Low]
  rintro n s ⟨i, hi, rfl, rfl⟩ K hK
  refine evl ?_
  refine ⟨fun h => ?_, fun h => ?_⟩
  · have hlt : i < l.length := by simpa using h
    refine ⟨⟨by omega, by omega⟩, hlt, ?_⟩
    simp only [getD_map hlt, encPin, List.map_cons, List.map_nil, List.take_succ_cons, List.take_zero]
    refine CallK_pure e137 (c137 l[i]) rfl ?_
    simp (maxSteps := 2000000) only [go_sem, ↓reduceIte, reduceCtorEq, Nat.reduceAdd, Nat.reduceMul, Nat.reduceSub, Nat.reduceLT, Nat.reduceLeDiff, Nat.reduceEqDiff, Int.reduceToNat, Int.reduceLT, Int.reduceLE, Int.reduceNeg, encPin, D.flat, wrap_succ hlt (le20 hl)]
    refine ⟨by simp; omega, by simp; omega, ?_⟩
    apply hK
    refine ⟨l.length - (i + 1), _, by omega, Ent.weak (ids := [0]) (by simp) rfl (by simp) ?_ ?_ ?_, i + 1, by omega, rfl, rfl⟩
    · simp only [objsLe, St.obj, find, AObj.renF, if_true, Option.getD_some, List.getD_cons_zero, and_true]
      rw [← take_set encPin l _ hlt]
      exact ⟨Nat.zero_lt_one, Or.inr rfl⟩
    · simp [envLe, find, AV.renF, AV.renF1, Leaf.renF]
    · simp [LowAll, AV.Low, AV.Low1, Leaf.Low, AObj.Low]
  · have hge : i = l.length := by simp at h; omega
    subst hge
    apply hK
    refine evl ?_
    refine Fin.nt Try.results105 [0] ?_ ?_ ?_ <;> try trivial
    all_goals simp [objsLe, St.obj, find, AObj.renF]
theorem c100 (rows : List (List D)) (left : Int) (h0 : 0 ≤ left) (h1 : left ≤ 1048576) (hl : rows.length ≤ maxLen) : Ctr Try.prog 100 [.one (.dat (.sl 4 rows)), .one (.dat (.int .i64 left))] [] (.one (.dat (.int .i64 (szL left rows.length)))) [] := by
  have hw := szL_wrap h0 h1 hl
  refine Ctr.bd mixed Try.func100 rfl ?_
  simp (maxSteps := 2000000) only [go_sem, ↓reduceIte, reduceCtorEq, Nat.reduceAdd, Nat.reduceMul, Nat.reduceSub, Nat.reduceLT, Nat.reduceLeDiff, Nat.reduceEqDiff, Int.reduceToNat, Int.reduceLT, Int.reduceLE, Int.reduceNeg, hw]
  repeat' first
    | ((with_reducible show Abs.Fin _ _ _ _ _ _); refine Fin.nt Try.results100 [] ?_ ?_ ?_ <;> try trivial)
    | with_reducible intro h
    | ((with_reducible show _ ∧ _); apply And.intro)
  all_goals try (first | exact True.intro | (refine rsl ?_; try exact True.intro))
  all_goals simp_all [szL]
  all_goals omega
theorem c140 (x y : Pin) : Ctr Try.prog 140 [.agg ((encPin x).map .dat), .agg ((encPin y).map .dat)] [] (.one (.dat (.bool (decide (x = y))))) [] := by
  simp only [encPin, List.map_cons, List.map_nil]
  refine Ctr.bd mixed Try.func140 rfl ?_
  refine evl ?_
  repeat' first
    | ((with_reducible show Abs.Fin _ _ _ _ _ _); refine Fin.nt Try.results140 [] ?_ ?_ ?_ <;> try trivial)
    | with_reducible intro h
    | ((with_reducible show _ ∧ _); apply And.intro)
  all_goals try (first | exact True.intro | (refine rsl ?_; try exact True.intro))
  all_goals simp_all [Pin.eq_iff]
theorem c112 (l l' : List Pin) (hl : l.length ≤ maxLen) (hl' : l'.length ≤ maxLen) : Ctr Try.prog 112 [.one (.dat (.sl 4 (l.map encPin))), .one (.dat (.sl 4 (l'.map encPin)))] [] (.one (.dat (.bool (decide (l = l'))))) [] := by
  refine Ctr.bd mixed Try.func112 rfl ?_
  refine evl ?_
  refine ⟨fun h => ?_, fun h => ?_⟩
  · have hne : l.length ≠ l'.length := by simp at h; omega
    refine Fin.nt Try.results112 [] ?_ ?_ ?_ <;> try trivial
    first | exact True.intro | (refine rsl ?_; try exact True.intro)
    symm; rw [decide_eq_false_iff_not]
    intro e; exact hne (by rw [e])
  have hlen : l.length = l'.length := by simp at h; omega
  refine LoopK_intro (fun n s => ∃ i : Nat, i ≤ l.length ∧ n = l.length - i ∧ l.take i = l'.take i ∧ s = mkSt [(5, .one (.dat (.int .i64 i))), (1, .one (.dat (.sl 4 (l'.map encPin)))), (0, .one (.dat (.sl 4 (l.map encPin))))] []) l.length _
    (Ent.weak (ids := []) (by simp) rfl (by simp) ?_ ?_ ?_) ⟨0, by omega, by omega, rfl, rfl⟩ ?_
  · simp [objsLe, St.obj, find, AObj.renF]
  · simp [envLe, find, AV.renF, AV.renF1, Leaf.renF]
  · simp [LowAll, AV.Low, AV.Low1, Leaf.Low, AObj.Low]
  rintro n s ⟨i, hi, rfl, ht, rfl⟩ K hK
  refine evl ?_
  refine ⟨fun h => ?_, fun h => ?_⟩
  · have hlt : i < l.length := by simpa using h
    have hlt' : i < l'.length := by omega
    refine ⟨⟨by omega, by omega⟩, hlt, ⟨by omega, by omega⟩, hlt', ?_⟩
    simp only [getD_map hlt, getD_map hlt', encPin, List.map_cons, List.map_nil, List.take_succ_cons, List.take_zero]
    first
      | refine CCallK_intro e140 (fun _ => ⟨trivial, c140 l[i] l'[i]⟩) rfl rfl ?_
      | refine Or.inl (CCallK_intro e140 (fun _ => ⟨trivial, c140 l[i] l'[i]⟩) rfl rfl ?_)
    simp (maxSteps := 2000000) only [go_sem, ↓reduceIte, reduceCtorEq, Nat.reduceAdd, Nat.reduceMul, Nat.reduceSub, Nat.reduceLT, Nat.reduceLeDiff, Nat.reduceEqDiff, Int.reduceToNat, Int.reduceLT, Int.reduceLE, Int.reduceNeg, wrap_succ hlt hl]
    refine ⟨fun h => ?_, fun h => ?_⟩
    · apply hK
      refine evl ?_
      refine Fin.nt Try.results112 [] ?_ ?_ ?_ <;> try trivial
      first | exact True.intro | (refine rsl ?_; try exact True.intro)
      symm; rw [decide_eq_false_iff_not]
      rintro rfl; simp at h
    · apply hK
      have he : l[i] = l'[i] := by simpa using h
      refine ⟨l.length - (i + 1), _, by omega, Ent.weak (ids := []) (by simp) rfl (by simp) ?_ ?_ ?_, i + 1, by omega, rfl, ?_, rfl⟩
      · simp [objsLe, St.obj, find, AObj.renF]
      · simp [envLe, find, AV.renF, AV.renF1, Leaf.renF]
      · simp [LowAll, AV.Low, AV.Low1, Leaf.Low, AObj.Low]
      · rw [List.take_succ_eq_append_getElem hlt, List.take_succ_eq_append_getElem hlt', ht, he]
  · have hge : i = l.length := by simp at h; omega
    subst hge
    apply hK
    refine evl ?_
    refine Fin.nt Try.results112 [] ?_ ?_ ?_ <;> try trivial
    first | exact True.intro | (refine rsl ?_; try exact True.intro)
    symm; rw [decide_eq_true_iff]
    rw [List.take_of_length_le (Nat.le_refl _), List.take_of_length_le (by omega)] at ht
    exact ht
def markPin (k : Int) : Pin := ⟨(k).tmod 3 == 0, k + 1, (k + 1 + 1).tmod 3 == 0, k + 1 + 1 + 1⟩
def markPins (k : Int) (n : Nat) : List (List D) := (List.range n).map fun i => encPin (markPin (k + 4 * (i : Nat)))
theorem markPins_length (k : Int) (n : Nat) : (markPins k n).length = n := by simp [markPins]
theorem c119 (l : List Pin) (k : Int) (hk0 : 0 ≤ k) (hk : k + 4 * l.length ≤ 4611686018427387904) : Ctr Try.prog 119 [.one (.own 0), .one (.dat (.int .i64 k))] [.vec 4 true (l.map encPin)] (.one (.dat (.int .i64 (k + 4 * l.length)))) [.vec 4 true (markPins k l.length)] := by
  refine Ctr.of_body mixed Try.func119 rfl (by kernel_rfl) (Nat.le_of_ble_eq_true rfl) (by simp [AV.Clean, AV.Clean1, Leaf.Clean, D.flat]) (by simp [AObj.Sep]) (by simp) ?_ (by simp [AV.Low, AV.Low1, Leaf.Low]) ?_
  · intro o ho
    have : o = 0 := by simpa using ho
    subst this
    simp [Objs, Compat, markPins]
  show wpA _ _ _ (FinQ _ _ _ _ _) _
  unfold markPins
  refine evl ?_
  refine LoopK_intro (fun n s => ∃ i : Nat, i ≤ l.length ∧ n = l.length - i ∧ s = mkSt [(5, .one (.dat (.int .i64 i))), (1, .one (.dat (.int .i64 (k + 4 * (i : Nat))))), (0, .one (.own 0))]
      [.vec 4 true ((List.range i).map (fun i => encPin (markPin (k + 4 * (i : Nat)))) ++ (l.drop i).map encPin)]) l.length _
    (Ent.weak (ids := [0]) (by simp) rfl (by simp) (by simp [objsLe, envLe, find, St.obj, AObj.renF, AV.renF, AV.renF1, Leaf.renF, LowAll, AV.Low, AV.Low1, Leaf.Low, AObj.Low, Ptr.renF, Ptr.Low]) (by simp [objsLe, envLe, find, St.obj, AObj.renF, AV.renF, AV.renF1, Leaf.renF, LowAll, AV.Low, AV.Low1, Leaf.Low, AObj.Low, Ptr.renF, Ptr.Low]) (by simp [objsLe, envLe, find, St.obj, AObj.renF, AV.renF, AV.renF1, Leaf.renF, LowAll, AV.Low, AV.Low1, Leaf.Low, AObj.Low, Ptr.renF, Ptr.Low])) ⟨0, by omega, by omega, rfl⟩ ?_
  rintro n s ⟨i, hi, rfl, rfl⟩ K hK
  have hlen : ((List.range i).map (fun i => encPin (markPin (k + 4 * (i : Nat)))) ++ (l.drop i).map encPin).length = l.length := by simp; omega
  rcases Nat.lt_or_ge i l.length with hlt | hge
  · have hA : ((List.range i).map (fun i => encPin (markPin (k + 4 * (i : Nat))))).length = i := by simp
    have hd : decide ((i : Int) < l.length) = true := by simpa using hlt
    have hw := wrap_succ hlt (show l.length ≤ maxLen by unfold maxLen; omega)
    have hw1 : IntKind.i64.wrap (k + 4 * (i : Int) + 1) = k + 4 * (i : Int) + 1 := by rw [IntKind.wrap_i64]; omega
    have hw2 : IntKind.i64.wrap (k + 4 * (i : Int) + 1 + 1) = k + 4 * (i : Int) + 1 + 1 := by rw [IntKind.wrap_i64]; omega
    have hw3 : IntKind.i64.wrap (k + 4 * (i : Int) + 1 + 1 + 1) = k + 4 * (i : Int) + 1 + 1 + 1 := by rw [IntKind.wrap_i64]; omega
    have hw4 : IntKind.i64.wrap (k + 4 * (i : Int) + 1 + 1 + 1 + 1) = k + 4 * (i : Int) + 1 + 1 + 1 + 1 := by rw [IntKind.wrap_i64]; omega
    rw [List.drop_eq_getElem_cons hlt, List.map_cons] at hlen ⊢
    generalize hAd : (List.range i).map (fun i => encPin (markPin (k + 4 * (i : Nat)))) = A at hA hlen ⊢
    have hl1 : ∀ x, (A ++ x :: (l.drop (i + 1)).map encPin).length = l.length := fun x => by
      rw [List.length_append, List.length_cons] at hlen ⊢; exact hlen
    simp (maxSteps := 2000000) only [go_sem, ↓reduceIte, reduceCtorEq, Nat.reduceAdd, Nat.reduceMul, Nat.reduceSub, Nat.reduceLT, Nat.reduceLeDiff, Nat.reduceEqDiff, Int.reduceToNat, Int.reduceLT, Int.reduceLE, Int.reduceNeg, hl1, hd, set_mid hA, getD_mid hA, encPin, hw, hw1, hw2, hw3, hw4, D.flat]
    repeat' ((with_reducible show _ ∧ _); apply And.intro)
    all_goals first
      | (with_reducible exact hlt)
      | omega
      | (exact (by decide : ((3 : Int) = 0 → False)))
      | skip
    apply hK
    refine ⟨l.length - (i + 1), _, by omega, Ent.weak (ids := [0]) (by simp) rfl (by simp) ?_ ?_ (by simp [objsLe, envLe, find, St.obj, AObj.renF, AV.renF, AV.renF1, Leaf.renF, LowAll, AV.Low, AV.Low1, Leaf.Low, AObj.Low, Ptr.renF, Ptr.Low]), i + 1, by omega, rfl, rfl⟩
    · rw [List.range_succ, List.map_append, hAd]
      simp [objsLe, envLe, find, St.obj, AObj.renF, AV.renF, AV.renF1, Leaf.renF, LowAll, AV.Low, AV.Low1, Leaf.Low, AObj.Low, Ptr.renF, Ptr.Low]
      rfl
    · simp [objsLe, envLe, find, St.obj, AObj.renF, AV.renF, AV.renF1, Leaf.renF, LowAll, AV.Low, AV.Low1, Leaf.Low, AObj.Low, Ptr.renF, Ptr.Low]
      omega
  · have hge' : i = l.length := by omega
    subst hge'
    have hd : decide ((l.length : Int) < l.length) = false := by simp
    simp (maxSteps := 2000000) only [go_sem, ↓reduceIte, reduceCtorEq, Nat.reduceAdd, Nat.reduceMul, Nat.reduceSub, Nat.reduceLT, Nat.reduceLeDiff, Nat.reduceEqDiff, Int.reduceToNat, Int.reduceLT, Int.reduceLE, Int.reduceNeg, hlen, hd]
    apply hK
    refine evl ?_
    refine Fin.nt Try.results119 [0] ?_ ?_ ?_ <;> try trivial
    rw [List.drop_length, List.map_nil, List.append_nil]
    simp [objsLe, envLe, find, St.obj, AObj.renF, AV.renF, AV.renF1, Leaf.renF, LowAll, AV.Low, AV.Low1, Leaf.Low, AObj.Low, Ptr.renF, Ptr.Low]
structure Res where
  Is : Bool
  Val : Int
  deriving DecidableEq
def encRes (x : Res) : List D := [.bool x.Is, .int .i64 x.Val]
def Res.wf (x : Res) : Prop := (Lit.int .i64 x.Val).wf = true ∧ True
theorem Res.eq_iff (x y : Res) : x = y ↔ x.Is = y.Is ∧ x.Val = y.Val := by cases x; cases y; simp
theorem c90 (x : Res) : Ctr Try.prog 90 [.agg ((encRes x).map .dat)] [] (.agg ((encRes x).map .dat)) [] := by
  simp only [encRes, List.map_cons, List.map_nil]
  refine Ctr.bd mixed Try.func90 rfl ?_
  refine evl ?_
  repeat' first
    | ((with_reducible show Abs.Fin _ _ _ _ _ _); refine Fin.nt Try.results90 [] ?_ ?_ ?_ <;> try trivial)
    | with_reducible intro h
    | ((with_reducible show _ ∧ _); apply And.intro)
  all_goals first | rfl | simp
theorem c61 (l : List Res) (hl : l.length ≤ 1048576) : Ctr Try.prog 61 [.one (.dat (.sl 2 (l.map encRes)))] [] (.one (.own 0)) [.vec 2 true (l.map encRes)] := by
  refine Ctr.bd mixed Try.func61 rfl ?_
  refine evl ?_
  refine ⟨by omega, ?_⟩
  refine LoopK_intro (fun n s => ∃ i : Nat, i ≤ l.length ∧ n = l.length - i ∧ s = mkSt [(4, .one (.dat (.int .i64 i))), (3, .one (.own 0)), (0, .one (.dat (.sl 2 (l.map encRes))))]
      [.vec 2 true ((l.take i).map encRes ++ List.replicate (l.length - i) [.bool false, .int .i64 0])]) l.length _
    (Ent.weak (ids := [0]) (by simp) rfl (by simp) ?_ ?_ ?_) ⟨0, by omega, by omega, rfl⟩ ?_
  · simp [objsLe, St.obj, find, AObj.renF]
  · simp [envLe, find, AV.renF, AV.renF1, Leaf.renF]
  · simp [LowAll, AV.Low, AV.Low1, Leaf.Low, AObj.Low]
  rintro n s ⟨i, hi, rfl, rfl⟩ K hK
  refine evl ?_
  refine ⟨fun h => ?_, fun h => ?_⟩
  · have hlt : i < l.length := by simpa using h
    refine ⟨⟨by omega, by omega⟩, hlt, ?_⟩
    simp only [getD_map hlt, encRes, List.map_cons, List.map_nil, List.take_succ_cons, List.take_zero]
    refine CallK_pure e90 (c90 l[i]) rfl ?_
    simp (maxSteps := 2000000) only [go_sem, ↓reduceIte, reduceCtorEq, Nat.reduceAdd, Nat.reduceMul, Nat.reduceSub, Nat.reduceLT, Nat.reduceLeDiff, Nat.reduceEqDiff, Int.reduceToNat, Int.reduceLT, Int.reduceLE, Int.reduceNeg, encRes, D.flat, wrap_succ hlt (le20 hl)]
    refine ⟨by simp; omega, by simp; omega, ?_⟩
    apply hK
    refine ⟨l.length - (i + 1), _, by omega, Ent.weak (ids := [0]) (by simp) rfl (by simp) ?_ ?_ ?_, i + 1, by omega, rfl, rfl⟩
    · simp only [objsLe, St.obj, find, AObj.renF, if_true, Option.getD_some, List.getD_cons_zero, and_true]
      rw [← take_set encRes l _ hlt]
      exact ⟨Nat.zero_lt_one, Or.inr rfl⟩
    · simp [envLe, find, AV.renF, AV.renF1, Leaf.renF]
    · simp [LowAll, AV.Low, AV.Low1, Leaf.Low, AObj.Low]
  · have hge : i = l.length := by simp at h; omega
    subst hge
    apply hK
    refine evl ?_
    refine Fin.nt Try.results61 [0] ?_ ?_ ?_ <;> try trivial
    all_goals simp [objsLe, St.obj, find, AObj.renF]
theorem c55 (rows : List (List D)) (left : Int) (h0 : 0 ≤ left) (h1 : left ≤ 1048576) (hl : rows.length ≤ maxLen) : Ctr Try.prog 55 [.one (.dat (.sl 2 rows)), .one (.dat (.int .i64 left))] [] (.one (.dat (.int .i64 (szL left rows.length)))) [] := by
  have hw := szL_wrap h0 h1 hl
  refine Ctr.bd mixed Try.func55 rfl ?_
  simp (maxSteps := 2000000) only [go_sem, ↓reduceIte, reduceCtorEq, Nat.reduceAdd, Nat.reduceMul, Nat.reduceSub, Nat.reduceLT, Nat.reduceLeDiff, Nat.reduceEqDiff, Int.reduceToNat, Int.reduceLT, Int.reduceLE, Int.reduceNeg, hw]
  repeat' first
    | ((with_reducible show Abs.Fin _ _ _ _ _ _); refine Fin.nt Try.results55 [] ?_ ?_ ?_ <;> try trivial)
    | with_reducible intro h
    | ((with_reducible show _ ∧ _); apply And.intro)
  all_goals try (first | exact True.intro | (refine rsl ?_; try exact True.intro))
  all_goals simp_all [szL]
  all_goals omega
theorem c97 (x y : Res) : Ctr Try.prog 97 [.agg ((encRes x).map .dat), .agg ((encRes y).map .dat)] [] (.one (.dat (.bool (decide (x = y))))) [] := by
  simp only [encRes, List.map_cons, List.map_nil]
  refine Ctr.bd mixed Try.func97 rfl ?_
  refine evl ?_
  repeat' first
    | ((with_reducible show Abs.Fin _ _ _ _ _ _); refine Fin.nt Try.results97 [] ?_ ?_ ?_ <;> try trivial)
    | with_reducible intro h
    | ((with_reducible show _ ∧ _); apply And.intro)
  all_goals try (first | exact True.intro | (refine rsl ?_; try exact True.intro))
  all_goals simp_all [Res.eq_iff]
theorem c67 (l l' : List Res) (hl : l.length ≤ maxLen) (hl' : l'.length ≤ maxLen) : Ctr Try.prog 67 [.one (.dat (.sl 2 (l.map encRes))), .one (.dat (.sl 2 (l'.map encRes)))] [] (.one (.dat (.bool (decide (l = l'))))) [] := by
  refine Ctr.bd mixed Try.func67 rfl ?_
  refine evl ?_
  refine ⟨fun h => ?_, fun h => ?_⟩
  · have hne : l.length ≠ l'.length := by simp at h; omega
    refine Fin.nt Try.results67 [] ?_ ?_ ?_ <;> try trivial
    first | exact True.intro | (refine rsl ?_; try exact True.intro)
    symm; rw [decide_eq_false_iff_not]
    intro e; exact hne (by rw [e])
  have hlen : l.length = l'.length := by simp at h; omega
  refine LoopK_intro (fun n s => ∃ i : Nat, i ≤ l.length ∧ n = l.length - i ∧ l.take i = l'.take i ∧ s = mkSt [(5, .one (.dat (.int .i64 i))), (1, .one (.dat (.sl 2 (l'.map encRes)))), (0, .one (.dat (.sl 2 (l.map encRes))))] []) l.length _
    (Ent.weak (ids := []) (by simp) rfl (by simp) ?_ ?_ ?_) ⟨0, by omega, by omega, rfl, rfl⟩ ?_
  · simp [objsLe, St.obj, find, AObj.renF]
  · simp [envLe, find, AV.renF, AV.renF1, Leaf.renF]
  · simp [LowAll, AV.Low, AV.Low1, Leaf.Low, AObj.Low]
  rintro n s ⟨i, hi, rfl, ht, rfl⟩ K hK
  refine evl ?_
  refine ⟨fun h => ?_, fun h => ?_⟩
  · have hlt : i < l.length := by simpa using h
    have hlt' : i < l'.length := by omega
    refine ⟨⟨by omega, by omega⟩, hlt, ⟨by omega, by omega⟩, hlt', ?_⟩
    simp only [getD_map hlt, getD_map hlt', encRes, List.map_cons, List.map_nil, List.take_succ_cons, List.take_zero]
    first
      | refine CCallK_intro e97 (fun _ => ⟨trivial, c97 l[i] l'[i]⟩) rfl rfl ?_
      | refine Or.inl (CCallK_intro e97 (fun _ => ⟨trivial, c97 l[i] l'[i]⟩) rfl rfl ?_)
    simp (maxSteps := 2000000) only [go_sem, ↓reduceIte, reduceCtorEq, Nat.reduceAdd, Nat.reduceMul, Nat.reduceSub, Nat.reduceLT, Nat.reduceLeDiff, Nat.reduceEqDiff, Int.reduceToNat, Int.reduceLT, Int.reduceLE, Int.reduceNeg, wrap_succ hlt hl]
    refine ⟨fun h => ?_, fun h => ?_⟩
    · apply hK
      refine evl ?_
      refine Fin.nt Try.results67 [] ?_ ?_ ?_ <;> try trivial
      first | exact True.intro | (refine rsl ?_; try exact True.intro)
      symm; rw [decide_eq_false_iff_not]
      rintro rfl; simp at h
    · apply hK
      have he : l[i] = l'[i] := by simpa using h
      refine ⟨l.length - (i + 1), _, by omega, Ent.weak (ids := []) (by simp) rfl (by simp) ?_ ?_ ?_, i + 1, by omega, rfl, ?_, rfl⟩
      · simp [objsLe, St.obj, find, AObj.renF]
      · simp [envLe, find, AV.renF, AV.renF1, Leaf.renF]
      · simp [LowAll, AV.Low, AV.Low1, Leaf.Low, AObj.Low]
      · rw [List.take_succ_eq_append_getElem hlt, List.take_succ_eq_append_getElem hlt', ht, he]
  · have hge : i = l.length := by simp at h; omega
    subst hge
    apply hK
    refine evl ?_
    refine Fin.nt Try.results67 [] ?_ ?_ ?_ <;> try trivial
    first | exact True.intro | (refine rsl ?_; try exact True.intro)
    symm; rw [decide_eq_true_iff]
    rw [List.take_of_length_le (Nat.le_refl _), List.take_of_length_le (by omega)] at ht
    exact ht
def markRes (k : Int) : Res := ⟨(k).tmod 3 == 0, k + 1⟩
def markRess (k : Int) (n : Nat) : List (List D) := (List.range n).map fun i => encRes (markRes (k + 2 * (i : Nat)))
theorem markRess_length (k : Int) (n : Nat) : (markRess k n).length = n := by simp [markRess]
theorem c34 (l : List Res) (k : Int) (hk0 : 0 ≤ k) (hk : k + 2 * l.length ≤ 4611686018427387904) : Ctr Try.prog 34 [.one (.own 0), .one (.dat (.int .i64 k))] [.vec 2 true (l.map encRes)] (.one (.dat (.int .i64 (k + 2 * l.length)))) [.vec 2 true (markRess k l.length)] := by
  refine Ctr.of_body mixed Try.func34 rfl (by kernel_rfl) (Nat.le_of_ble_eq_true rfl) (by simp [AV.Clean, AV.Clean1, Leaf.Clean, D.flat]) (by simp [AObj.Sep]) (by simp) ?_ (by simp [AV.Low, AV.Low1, Leaf.Low]) ?_
  · intro o ho
    have : o = 0 := by simpa using ho
    subst this
    simp [Objs, Compat, markRess]
  show wpA _ _ _ (FinQ _ _ _ _ _) _
  unfold markRess
  refine evl ?_
  refine LoopK_intro (fun n s => ∃ i : Nat, i ≤ l.length ∧ n = l.length - i ∧ s = mkSt [(5, .one (.dat (.int .i64 i))), (1, .one (.dat (.int .i64 (k + 2 * (i : Nat))))), (0, .one (.own 0))]
      [.vec 2 true ((List.range i).map (fun i => encRes (markRes (k + 2 * (i : Nat)))) ++ (l.drop i).map encRes)]) l.length _
    (Ent.weak (ids := [0]) (by simp) rfl (by simp) (by simp [objsLe, envLe, find, St.obj, AObj.renF, AV.renF, AV.renF1, Leaf.renF, LowAll, AV.Low, AV.Low1, Leaf.Low, AObj.Low, Ptr.renF, Ptr.Low]) (by simp [objsLe, envLe, find, St.obj, AObj.renF, AV.renF, AV.renF1, Leaf.renF, LowAll, AV.Low, AV.Low1, Leaf.Low, AObj.Low, Ptr.renF, Ptr.Low]) (by simp [objsLe, envLe, find, St.obj, AObj.renF, AV.renF, AV.renF1, Leaf.renF, LowAll, AV.Low, AV.Low1, Leaf.Low, AObj.Low, Ptr.renF, Ptr.Low])) ⟨0, by omega, by omega, rfl⟩ ?_
  rintro n s ⟨i, hi, rfl, rfl⟩ K hK
  have hlen : ((List.range i).map (fun i => encRes (markRes (k + 2 * (i : Nat)))) ++ (l.drop i).map encRes).length = l.length := by simp; omega
  rcases Nat.lt_or_ge i l.length with hlt | hge
  · have hA : ((List.range i).map (fun i => encRes (markRes (k + 2 * (i : Nat))))).length = i := by simp
    have hd : decide ((i : Int) < l.length) = true := by simpa using hlt
    have hw := wrap_succ hlt (show l.length ≤ maxLen by unfold maxLen; omega)
    have hw1 : IntKind.i64.wrap (k + 2 * (i : Int) + 1) = k + 2 * (i : Int) + 1 := by rw [IntKind.wrap_i64]; omega
    have hw2 : IntKind.i64.wrap (k + 2 * (i : Int) + 1 + 1) = k + 2 * (i : Int) + 1 + 1 := by rw [IntKind.wrap_i64]; omega
    rw [List.drop_eq_getElem_cons hlt, List.map_cons] at hlen ⊢
    generalize hAd : (List.range i).map (fun i => encRes (markRes (k + 2 * (i : Nat)))) = A at hA hlen ⊢
    have hl1 : ∀ x, (A ++ x :: (l.drop (i + 1)).map encRes).length = l.length := fun x => by
      rw [List.length_append, List.length_cons] at hlen ⊢; exact hlen
    simp (maxSteps := 2000000) only [go_sem, ↓reduceIte, reduceCtorEq, Nat.reduceAdd, Nat.reduceMul, Nat.reduceSub, Nat.reduceLT, Nat.reduceLeDiff, Nat.reduceEqDiff, Int.reduceToNat, Int.reduceLT, Int.reduceLE, Int.reduceNeg, hl1, hd, set_mid hA, getD_mid hA, encRes, hw, hw1, hw2, D.flat]
    repeat' ((with_reducible show _ ∧ _); apply And.intro)
    all_goals first
      | (with_reducible exact hlt)
      | omega
      | (exact (by decide : ((3 : Int) = 0 → False)))
      | skip
    apply hK
    refine ⟨l.length - (i + 1), _, by omega, Ent.weak (ids := [0]) (by simp) rfl (by simp) ?_ ?_ (by simp [objsLe, envLe, find, St.obj, AObj.renF, AV.renF, AV.renF1, Leaf.renF, LowAll, AV.Low, AV.Low1, Leaf.Low, AObj.Low, Ptr.renF, Ptr.Low]), i + 1, by omega, rfl, rfl⟩
    · rw [List.range_succ, List.map_append, hAd]
      simp [objsLe, envLe, find, St.obj, AObj.renF, AV.renF, AV.renF1, Leaf.renF, LowAll, AV.Low, AV.Low1, Leaf.Low, AObj.Low, Ptr.renF, Ptr.Low]
      rfl
    · simp [objsLe, envLe, find, St.obj, AObj.renF, AV.renF, AV.renF1, Leaf.renF, LowAll, AV.Low, AV.Low1, Leaf.Low, AObj.Low, Ptr.renF, Ptr.Low]
      omega
  · have hge' : i = l.length := by omega
    subst hge'
    have hd : decide ((l.length : Int) < l.length) = false := by simp
    simp (maxSteps := 2000000) only [go_sem, ↓reduceIte, reduceCtorEq, Nat.reduceAdd, Nat.reduceMul, Nat.reduceSub, Nat.reduceLT, Nat.reduceLeDiff, Nat.reduceEqDiff, Int.reduceToNat, Int.reduceLT, Int.reduceLE, Int.reduceNeg, hlen, hd]
    apply hK
    refine evl ?_
    refine Fin.nt Try.results34 [0] ?_ ?_ ?_ <;> try trivial
    rw [List.drop_length, List.map_nil, List.append_nil]
    simp [objsLe, envLe, find, St.obj, AObj.renF, AV.renF, AV.renF1, Leaf.renF, LowAll, AV.Low, AV.Low1, Leaf.Low, AObj.Low, Ptr.renF, Ptr.Low]
structure Ev where
  Kind : Int
  Who : Int
  Serial : Int
  Cell : Int
  Handle : Int
  Val : Int
  Code : Int
  deriving DecidableEq
def encEv (x : Ev) : List D := [.int .i64 x.Kind, .int .i64 x.Who, .int .i64 x.Serial, .int .i64 x.Cell, .int .i64 x.Handle, .int .i64 x.Val, .int .i64 x.Code]
def Ev.wf (x : Ev) : Prop := (Lit.int .i64 x.Kind).wf = true ∧ (Lit.int .i64 x.Who).wf = true ∧ (Lit.int .i64 x.Serial).wf = true ∧ (Lit.int .i64 x.Cell).wf = true ∧ (Lit.int .i64 x.Handle).wf = true ∧ (Lit.int .i64 x.Val).wf = true ∧ (Lit.int .i64 x.Code).wf = true ∧ True
theorem Ev.eq_iff (x y : Ev) : x = y ↔ x.Kind = y.Kind ∧ x.Who = y.Who ∧ x.Serial = y.Serial ∧ x.Cell = y.Cell ∧ x.Handle = y.Handle ∧ x.Val = y.Val ∧ x.Code = y.Code := by cases x; cases y; simp
theorem c77 (x : Ev) : Ctr Try.prog 77 [.agg ((encEv x).map .dat)] [] (.agg ((encEv x).map .dat)) [] := by
  simp only [encEv, List.map_cons, List.map_nil]
  refine Ctr.bd mixed Try.func77 rfl ?_
  refine evl ?_
  repeat' first
    | ((with_reducible show Abs.Fin _ _ _ _ _ _); refine Fin.nt Try.results77 [] ?_ ?_ ?_ <;> try trivial)
    | with_reducible intro h
    | ((with_reducible show _ ∧ _); apply And.intro)
  all_goals first | rfl | simp
theorem c45 (l : List Ev) (hl : l.length ≤ 1048576) : Ctr Try.prog 45 [.one (.dat (.sl 7 (l.map encEv)))] [] (.one (.own 0)) [.vec 7 true (l.map encEv)] := by
  refine Ctr.bd mixed Try.func45 rfl ?_
  refine evl ?_
  refine ⟨by omega, ?_⟩
  refine LoopK_intro (fun n s => ∃ i : Nat, i ≤ l.length ∧ n = l.length - i ∧ s = mkSt [(4, .one (.dat (.int .i64 i))), (3, .one (.own 0)), (0, .one (.dat (.sl 7 (l.map encEv))))]
      [.vec 7 true ((l.take i).map encEv ++ List.replicate (l.length - i) [.int .i64 0, .int .i64 0, .int .i64 0, .int .i64 0, .int .i64 0, .int .i64 0, .int .i64 0])]) l.length _
    (Ent.weak (ids := [0]) (by simp) rfl (by simp) ?_ ?_ ?_) ⟨0, by omega, by omega, rfl⟩ ?_
  · simp [objsLe, St.obj, find, AObj.renF]
  · simp [envLe, find, AV.renF, AV.renF1, Leaf.renF]
  · simp [LowAll, AV.Low, AV.Low1, Leaf.Low, AObj.Low]
  rintro n s ⟨i, hi, rfl, rfl⟩ K hK
  refine evl ?_
  refine ⟨fun h => ?_, fun h => ?_⟩
  · have hlt : i < l.length := by simpa using h
    refine ⟨⟨by omega, by omega⟩, hlt, ?_⟩
    simp only [getD_map hlt, encEv, List.map_cons, List.map_nil, List.take_succ_cons, List.take_zero]
    refine CallK_pure e77 (c77 l[i]) rfl ?_
    simp (maxSteps := 2000000) only [go_sem, ↓reduceIte, reduceCtorEq, Nat.reduceAdd, Nat.reduceMul, Nat.reduceSub, Nat.reduceLT, Nat.reduceLeDiff, Nat.reduceEqDiff, Int.reduceToNat, Int.reduceLT, Int.reduceLE, Int.reduceNeg, encEv, D.flat, wrap_succ hlt (le20 hl)]
    refine ⟨by simp; omega, by simp; omega, ?_⟩
    apply hK
    refine ⟨l.length - (i + 1), _, by omega, Ent.weak (ids := [0]) (by simp) rfl (by simp) ?_ ?_ ?_, i + 1, by omega, rfl, rfl⟩
    · simp only [objsLe, St.obj, find, AObj.renF, if_true, Option.getD_some, List.getD_cons_zero, and_true]
      rw [← take_set encEv l _ hlt]
      exact ⟨Nat.zero_lt_one, Or.inr rfl⟩
    · simp [envLe, find, AV.renF, AV.renF1, Leaf.renF]
    · simp [LowAll, AV.Low, AV.Low1, Leaf.Low, AObj.Low]
  · have hge : i = l.length := by simp at h; omega
    subst hge
    apply hK
    refine evl ?_
    refine Fin.nt Try.results45 [0] ?_ ?_ ?_ <;> try trivial
    all_goals simp [objsLe, St.obj, find, AObj.renF]
theorem c39 (rows : List (List D)) (left : Int) (h0 : 0 ≤ left) (h1 : left ≤ 1048576) (hl : rows.length ≤ maxLen) : Ctr Try.prog 39 [.one (.dat (.sl 7 rows)), .one (.dat (.int .i64 left))] [] (.one (.dat (.int .i64 (szL left rows.length)))) [] := by
  have hw := szL_wrap h0 h1 hl
  refine Ctr.bd mixed Try.func39 rfl ?_
  simp (maxSteps := 2000000) only [go_sem, ↓reduceIte, reduceCtorEq, Nat.reduceAdd, Nat.reduceMul, Nat.reduceSub, Nat.reduceLT, Nat.reduceLeDiff, Nat.reduceEqDiff, Int.reduceToNat, Int.reduceLT, Int.reduceLE, Int.reduceNeg, hw]
  repeat' first
    | ((with_reducible show Abs.Fin _ _ _ _ _ _); refine Fin.nt Try.results39 [] ?_ ?_ ?_ <;> try trivial)
    | with_reducible intro h
    | ((with_reducible show _ ∧ _); apply And.intro)
  all_goals try (first | exact True.intro | (refine rsl ?_; try exact True.intro))
  all_goals simp_all [szL]
  all_goals omega
theorem c83 (x y : Ev) : Ctr Try.prog 83 [.agg ((encEv x).map .dat), .agg ((encEv y).map .dat)] [] (.one (.dat (.bool (decide (x = y))))) [] := by
  simp only [encEv, List.map_cons, List.map_nil]
  refine Ctr.bd mixed Try.func83 rfl ?_
  refine evl ?_
  repeat' first
    | ((with_reducible show Abs.Fin _ _ _ _ _ _); refine Fin.nt Try.results83 [] ?_ ?_ ?_ <;> try trivial)
    | with_reducible intro h
    | ((with_reducible show _ ∧ _); apply And.intro)
  all_goals try (first | exact True.intro | (refine rsl ?_; try exact True.intro))
  all_goals simp_all [Ev.eq_iff]
theorem c49 (l l' : List Ev) (hl : l.length ≤ maxLen) (hl' : l'.length ≤ maxLen) : Ctr Try.prog 49 [.one (.dat (.sl 7 (l.map encEv))), .one (.dat (.sl 7 (l'.map encEv)))] [] (.one (.dat (.bool (decide (l = l'))))) [] := by
  refine Ctr.bd mixed Try.func49 rfl ?_
  refine evl ?_
  refine ⟨fun h => ?_, fun h => ?_⟩
  · have hne : l.length ≠ l'.length := by simp at h; omega
    refine Fin.nt Try.results49 [] ?_ ?_ ?_ <;> try trivial
    first | exact True.intro | (refine rsl ?_; try exact True.intro)
    symm; rw [decide_eq_false_iff_not]
    intro e; exact hne (by rw [e])
  have hlen : l.length = l'.length := by simp at h; omega
  refine LoopK_intro (fun n s => ∃ i : Nat, i ≤ l.length ∧ n = l.length - i ∧ l.take i = l'.take i ∧ s = mkSt [(5, .one (.dat (.int .i64 i))), (1, .one (.dat (.sl 7 (l'.map encEv)))), (0, .one (.dat (.sl 7 (l.map encEv))))] []) l.length _
    (Ent.weak (ids := []) (by simp) rfl (by simp) ?_ ?_ ?_) ⟨0, by omega, by omega, rfl, rfl⟩ ?_
  · simp [objsLe, St.obj, find, AObj.renF]
  · simp [envLe, find, AV.renF, AV.renF1, Leaf.renF]
  · simp [LowAll, AV.Low, AV.Low1, Leaf.Low, AObj.Low]
  rintro n s ⟨i, hi, rfl, ht, rfl⟩ K hK
  refine evl ?_
  refine ⟨fun h => ?_, fun h => ?_⟩
  · have hlt : i < l.length := by simpa using h
    have hlt' : i < l'.length := by omega
    refine ⟨⟨by omega, by omega⟩, hlt, ⟨by omega, by omega⟩, hlt', ?_⟩
    simp only [getD_map hlt, getD_map hlt', encEv, List.map_cons, List.map_nil, List.take_succ_cons, List.take_zero]
    first
      | refine CCallK_intro e83 (fun _ => ⟨trivial, c83 l[i] l'[i]⟩) rfl rfl ?_
      | refine Or.inl (CCallK_intro e83 (fun _ => ⟨trivial, c83 l[i] l'[i]⟩) rfl rfl ?_)
    simp (maxSteps := 2000000) only [go_sem, ↓reduceIte, reduceCtorEq, Nat.reduceAdd, Nat.reduceMul, Nat.reduceSub, Nat.reduceLT, Nat.reduceLeDiff, Nat.reduceEqDiff, Int.reduceToNat, Int.reduceLT, Int.reduceLE, Int.reduceNeg, wrap_succ hlt hl]
    refine ⟨fun h => ?_, fun h => ?_⟩
    · apply hK
      refine evl ?_
      refine Fin.nt Try.results49 [] ?_ ?_ ?_ <;> try trivial
      first | exact True.intro | (refine rsl ?_; try exact True.intro)
      symm; rw [decide_eq_false_iff_not]
      rintro rfl; simp at h
    · apply hK
      have he : l[i] = l'[i] := by simpa using h
      refine ⟨l.length - (i + 1), _, by omega, Ent.weak (ids := []) (by simp) rfl (by simp) ?_ ?_ ?_, i + 1, by omega, rfl, ?_, rfl⟩
      · simp [objsLe, St.obj, find, AObj.renF]
      · simp [envLe, find, AV.renF, AV.renF1, Leaf.renF]
      · simp [LowAll, AV.Low, AV.Low1, Leaf.Low, AObj.Low]
      · rw [List.take_succ_eq_append_getElem hlt, List.take_succ_eq_append_getElem hlt', ht, he]
  · have hge : i = l.length := by simp at h; omega
    subst hge
    apply hK
    refine evl ?_
    refine Fin.nt Try.results49 [] ?_ ?_ ?_ <;> try trivial
    first | exact True.intro | (refine rsl ?_; try exact True.intro)
    symm; rw [decide_eq_true_iff]
    rw [List.take_of_length_le (Nat.le_refl _), List.take_of_length_le (by omega)] at ht
    exact ht
def markEv (k : Int) : Ev := ⟨k, k + 1, k + 1 + 1, k + 1 + 1 + 1, k + 1 + 1 + 1 + 1, k + 1 + 1 + 1 + 1 + 1, k + 1 + 1 + 1 + 1 + 1 + 1⟩
def markEvs (k : Int) (n : Nat) : List (List D) := (List.range n).map fun i => encEv (markEv (k + 7 * (i : Nat)))
theorem markEvs_length (k : Int) (n : Nat) : (markEvs k n).length = n := by simp [markEvs]
theorem c53 (l : List Ev) (k : Int) (hk0 : 0 ≤ k) (hk : k + 7 * l.length ≤ 4611686018427387904) : Ctr Try.prog 53 [.one (.own 0), .one (.dat (.int .i64 k))] [.vec 7 true (l.map encEv)] (.one (.dat (.int .i64 (k + 7 * l.length)))) [.vec 7 true (markEvs k l.length)] := by
  refine Ctr.of_body mixed Try.func53 rfl (by kernel_rfl) (Nat.le_of_ble_eq_true rfl) (by simp [AV.Clean, AV.Clean1, Leaf.Clean, D.flat]) (by simp [AObj.Sep]) (by simp) ?_ (by simp [AV.Low, AV.Low1, Leaf.Low]) ?_
  · intro o ho
    have : o = 0 := by simpa using ho
    subst this
    simp [Objs, Compat, markEvs]
  show wpA _ _ _ (FinQ _ _ _ _ _) _
  unfold markEvs
  refine evl ?_
  refine LoopK_intro (fun n s => ∃ i : Nat, i ≤ l.length ∧ n = l.length - i ∧ s = mkSt [(5, .one (.dat (.int .i64 i))), (1, .one (.dat (.int .i64 (k + 7 * (i : Nat))))), (0, .one (.own 0))]
      [.vec 7 true ((List.range i).map (fun i => encEv (markEv (k + 7 * (i : Nat)))) ++ (l.drop i).map encEv)]) l.length _
    (Ent.weak (ids := [0]) (by simp) rfl (by simp) (by simp [objsLe, envLe, find, St.obj, AObj.renF, AV.renF, AV.renF1, Leaf.renF, LowAll, AV.Low, AV.Low1, Leaf.Low, AObj.Low, Ptr.renF, Ptr.Low]) (by simp [objsLe, envLe, find, St.obj, AObj.renF, AV.renF, AV.renF1, Leaf.renF, LowAll, AV.Low, AV.Low1, Leaf.Low, AObj.Low, Ptr.renF, Ptr.Low]) (by simp [objsLe, envLe, find, St.obj, AObj.renF, AV.renF, AV.renF1, Leaf.renF, LowAll, AV.Low, AV.Low1, Leaf.Low, AObj.Low, Ptr.renF, Ptr.Low])) ⟨0, by omega, by omega, rfl⟩ ?_
  rintro n s ⟨i, hi, rfl, rfl⟩ K hK
  have hlen : ((List.range i).map (fun i => encEv (markEv (k + 7 * (i : Nat)))) ++ (l.drop i).map encEv).length = l.length := by simp; omega
  rcases Nat.lt_or_ge i l.length with hlt | hge
  · have hA : ((List.range i).map (fun i => encEv (markEv (k + 7 * (i : Nat))))).length = i := by simp
    have hd : decide ((i : Int) < l.length) = true := by simpa using hlt
    have hw := wrap_succ hlt (show l.length ≤ maxLen by unfold maxLen; omega)
    have hw1 : IntKind.i64.wrap (k + 7 * (i : Int) + 1) = k + 7 * (i : Int) + 1 := by rw [IntKind.wrap_i64]; omega
    have hw2 : IntKind.i64.wrap (k + 7 * (i : Int) + 1 + 1) = k + 7 * (i : Int) + 1 + 1 := by rw [IntKind.wrap_i64]; omega
    have hw3 : IntKind.i64.wrap (k + 7 * (i : Int) + 1 + 1 + 1) = k + 7 * (i : Int) + 1 + 1 + 1 := by rw [IntKind.wrap_i64]; omega
    have hw4 : IntKind.i64.wrap (k + 7 * (i : Int) + 1 + 1 + 1 + 1) = k + 7 * (i : Int) + 1 + 1 + 1 + 1 := by rw [IntKind.wrap_i64]; omega
    have hw5 : IntKind.i64.wrap (k + 7 * (i : Int) + 1 + 1 + 1 + 1 + 1) = k + 7 * (i : Int) + 1 + 1 + 1 + 1 + 1 := by rw [IntKind.wrap_i64]; omega
    have hw6 : IntKind.i64.wrap (k + 7 * (i : Int) + 1 + 1 + 1 + 1 + 1 + 1) = k + 7 * (i : Int) + 1 + 1 + 1 + 1 + 1 + 1 := by rw [IntKind.wrap_i64]; omega
    have hw7 : IntKind.i64.wrap (k + 7 * (i : Int) + 1 + 1 + 1 + 1 + 1 + 1 + 1) = k + 7 * (i : Int) + 1 + 1 + 1 + 1 + 1 + 1 + 1 := by rw [IntKind.wrap_i64]; omega
    rw [List.drop_eq_getElem_cons hlt, List.map_cons] at hlen ⊢
    generalize hAd : (List.range i).map (fun i => encEv (markEv (k + 7 * (i : Nat)))) = A at hA hlen ⊢
    have hl1 : ∀ x, (A ++ x :: (l.drop (i + 1)).map encEv).length = l.length := fun x => by
      rw [List.length_append, List.length_cons] at hlen ⊢; exact hlen
    simp (maxSteps := 2000000) only [go_sem, ↓reduceIte, reduceCtorEq, Nat.reduceAdd, Nat.reduceMul, Nat.reduceSub, Nat.reduceLT, Nat.reduceLeDiff, Nat.reduceEqDiff, Int.reduceToNat, Int.reduceLT, Int.reduceLE, Int.reduceNeg, hl1, hd, set_mid hA, getD_mid hA, encEv, hw, hw1, hw2, hw3, hw4, hw5, hw6, hw7, D.flat]
    repeat' ((with_reducible show _ ∧ _); apply And.intro)
    all_goals first
      | (with_reducible exact hlt)
      | omega
      | (exact (by decide : ((3 : Int) = 0 → False)))
      | skip
    apply hK
    refine ⟨l.length - (i + 1), _, by omega, Ent.weak (ids := [0]) (by simp) rfl (by simp) ?_ ?_ (by simp [objsLe, envLe, find, St.obj, AObj.renF, AV.renF, AV.renF1, Leaf.renF, LowAll, AV.Low, AV.Low1, Leaf.Low, AObj.Low, Ptr.renF, Ptr.Low]), i + 1, by omega, rfl, rfl⟩
    · rw [List.range_succ, List.map_append, hAd]
      simp [objsLe, envLe, find, St.obj, AObj.renF, AV.renF, AV.renF1, Leaf.renF, LowAll, AV.Low, AV.Low1, Leaf.Low, AObj.Low, Ptr.renF, Ptr.Low]
      rfl
    · simp [objsLe, envLe, find, St.obj, AObj.renF, AV.renF, AV.renF1, Leaf.renF, LowAll, AV.Low, AV.Low1, Leaf.Low, AObj.Low, Ptr.renF, Ptr.Low]
      omega
  · have hge' : i = l.length := by omega
    subst hge'
    have hd : decide ((l.length : Int) < l.length) = false := by simp
    simp (maxSteps := 2000000) only [go_sem, ↓reduceIte, reduceCtorEq, Nat.reduceAdd, Nat.reduceMul, Nat.reduceSub, Nat.reduceLT, Nat.reduceLeDiff, Nat.reduceEqDiff, Int.reduceToNat, Int.reduceLT, Int.reduceLE, Int.reduceNeg, hlen, hd]
    apply hK
    refine evl ?_
    refine Fin.nt Try.results53 [0] ?_ ?_ ?_ <;> try trivial
    rw [List.drop_length, List.map_nil, List.append_nil]
    simp [objsLe, envLe, find, St.obj, AObj.renF, AV.renF, AV.renF1, Leaf.renF, LowAll, AV.Low, AV.Low1, Leaf.Low, AObj.Low, Ptr.renF, Ptr.Low]
end Go.Proofs.Ytjfpaiencojehaa.Mod
