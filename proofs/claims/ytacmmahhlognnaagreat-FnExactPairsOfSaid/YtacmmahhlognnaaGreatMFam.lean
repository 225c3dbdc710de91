/- Contracts: Fam. -/
import Derived.Test.YtacmmahhlognnaaGreatRows
import Derived.Test.YtacmmahhlognnaaGreatTy
import Derived.Test.YtacmmahhlognnaaGreatAbsTac
import Derived.Test.YtacmmahhlognnaaGreatAbsData
import Derived.Test.YtacmmahhlognnaaGreatMBase
import Derived.WalkKit
import Derived.ProofKit
import Derived.OpenShut
namespace Go.Proofs.YtacmmahhlognnaaGreat.Mod
open Go.Abs Go.Proofs.YtacmmahhlognnaaGreat.Ty Go.ChangeShapes Go.WideShapes Go.ChangeAt Go.RowKit
set_option linter.unusedSimpArgs false
set_option linter.unusedVariables false
set_option maxHeartbeats 8000000
set_option maxRecDepth 100000
structure KV where
  Key : Int
  Val : Int
  deriving DecidableEq
def encKV (x : KV) : List D := [.int .i64 x.Key, .int .i64 x.Val]
def KV.wf (x : KV) : Prop := (Lit.int .i64 x.Key).wf = true ∧ (Lit.int .i64 x.Val).wf = true ∧ True
theorem KV.eq_iff (x y : KV) : x = y ↔ x.Key = y.Key ∧ x.Val = y.Val := by cases x; cases y; simp
theorem c51 (x y : KV) : Ctr Tryz.prog 51 [.agg ((encKV x).map .dat), .agg ((encKV y).map .dat)] [] (.one (.dat (.bool (decide (x = y))))) [] := by
  simp only [encKV, List.map_cons, List.map_nil]
  refine Ctr.bd mixed Tryz.func51 rfl ?_
  refine evl ?_
  repeat' first
    | ((with_reducible show Abs.Fin _ _ _ _ _ _); refine Fin.nt Tryz.results51 [] ?_ ?_ ?_ <;> try trivial)
    | with_reducible intro h
    | ((with_reducible show _ ∧ _); apply And.intro)
  all_goals try (first | exact True.intro | (refine rsl ?_; try exact True.intro))
  all_goals simp_all [KV.eq_iff]
theorem c20 (l l' : List KV) (hl : l.length ≤ maxLen) (hl' : l'.length ≤ maxLen) : Ctr Tryz.prog 20 [.one (.dat (.sl 2 (l.map encKV))), .one (.dat (.sl 2 (l'.map encKV)))] [] (.one (.dat (.bool (decide (l = l'))))) [] := by
  refine Ctr.bd mixed Tryz.func20 rfl ?_
  refine evl ?_
  refine ⟨fun h => ?_, fun h => ?_⟩
  · have hne : l.length ≠ l'.length := by simp at h; omega
    refine Fin.nt Tryz.results20 [] ?_ ?_ ?_ <;> try trivial
    first | exact True.intro | (refine rsl ?_; try exact True.intro)
    symm; rw [decide_eq_false_iff_not]
    intro e; exact hne (by rw [e])
  have hlen : l.length = l'.length := by simp at h; omega
  refine LoopK_intro (fun n s => ∃ i : Nat, i ≤ l.length ∧ n = l.length - i ∧ l.take i = l'.take i ∧ s = mkSt [(5, .one (.dat (.int .i64 i))), (1, .one (.dat (.sl 2 (l'.map encKV)))), (0, .one (.dat (.sl 2 (l.map encKV))))] []) l.length _
    (Ent.weak (ids := []) (by simp) rfl (by simp) ?_ ?_ ?_) ⟨0, by omega, by omega, rfl, rfl⟩ ?_
  · simp [objsLe, St.obj, find, AObj.renF]
  · simp [envLe, find, AV.renF, AV.renF1, Leaf.renF]
  · simp [LowAll, AV.Low, AV.Low1, Leaf.Low, AObj.Low]
  rintro n s ⟨i, hi, rfl, ht, rfl⟩ K hK
  refine evl ?_
  refine ⟨fun h => ?_, fun h => ?_⟩
  · have hlt : i < l.length := by simpa using h
    have hlt' : i < l'.length := by omega
    refine ⟨⟨by omega, by omega⟩, hlt, ⟨by omega, by omega⟩, hlt', ?_⟩
    simp only [getD_map hlt, getD_map hlt', encKV, List.map_cons, List.map_nil, List.take_succ_cons, List.take_zero]
    first
      | refine CCallK_intro e51 (fun _ => ⟨trivial, c51 l[i] l'[i]⟩) rfl rfl ?_
      | refine Or.inl (CCallK_intro e51 (fun _ => ⟨trivial, c51 l[i] l'[i]⟩) rfl rfl ?_)
    simp (maxSteps := 2000000) only [go_sem, ↓reduceIte, reduceCtorEq, Nat.reduceAdd, Nat.reduceMul, Nat.reduceSub, Nat.reduceLT, Nat.reduceLeDiff, Nat.reduceEqDiff, Int.reduceToNat, Int.reduceLT, Int.reduceLE, Int.reduceNeg, wrap_succ hlt hl]
    refine ⟨fun h => ?_, fun h => ?_⟩
    · apply hK
      refine evl ?_
      refine Fin.nt Tryz.results20 [] ?_ ?_ ?_ <;> try trivial
      first | exact True.intro | (refine rsl ?_; try exact True.intro)
      symm; rw [decide_eq_false_iff_not]
      rintro rfl; simp at h
    · apply hK
      have he : l[i] = l'[i] := by simpa using h
      refine ⟨l.length - (i + 1), _, by omega, Ent.weak (ids := []) (by simp) rfl (by simp) ?_ ?_ ?_, i + 1, by omega, rfl, ?_, rfl⟩
      · simp [objsLe, St.obj, find, AObj.renF]
      · simp [envLe, find, AV.renF, AV.renF1, Leaf.renF]
      · simp [LowAll, AV.Low, AV.Low1, Leaf.Low, AObj.Low]
      · rw [List.take_succ_eq_append_getElem hlt, List.take_succ_eq_append_getElem hlt', ht, he]
  · have hge : i = l.length := by simp at h; omega
    subst hge
    apply hK
    refine evl ?_
    refine Fin.nt Tryz.results20 [] ?_ ?_ ?_ <;> try trivial
    first | exact True.intro | (refine rsl ?_; try exact True.intro)
    symm; rw [decide_eq_true_iff]
    rw [List.take_of_length_le (Nat.le_refl _), List.take_of_length_le (by omega)] at ht
    exact ht
def markKV (k : Int) : KV := ⟨k, k + 1⟩
def markKVs (k : Int) (n : Nat) : List (List D) := (List.range n).map fun i => encKV (markKV (k + 2 * (i : Nat)))
theorem markKVs_length (k : Int) (n : Nat) : (markKVs k n).length = n := by simp [markKVs]
theorem c21 (l : List KV) (k : Int) (hk0 : 0 ≤ k) (hk : k + 2 * l.length ≤ 4611686018427387904) : Ctr Tryz.prog 21 [.one (.own 0), .one (.dat (.int .i64 k))] [.vec 2 true (l.map encKV)] (.one (.dat (.int .i64 (k + 2 * l.length)))) [.vec 2 true (markKVs k l.length)] := by
  refine Ctr.of_body mixed Tryz.func21 rfl (by kernel_rfl) (Nat.le_of_ble_eq_true rfl) (by simp [AV.Clean, AV.Clean1, Leaf.Clean, D.flat]) (by simp [AObj.Sep]) (by simp) ?_ (by simp [AV.Low, AV.Low1, Leaf.Low]) ?_
  · intro o ho
    have : o = 0 := by simpa using ho
    subst this
    simp [Objs, Compat, markKVs]
  show wpA _ _ _ (FinQ _ _ _ _ _) _
  unfold markKVs
  refine evl ?_
  refine LoopK_intro (fun n s => ∃ i : Nat, i ≤ l.length ∧ n = l.length - i ∧ s = mkSt [(5, .one (.dat (.int .i64 i))), (1, .one (.dat (.int .i64 (k + 2 * (i : Nat))))), (0, .one (.own 0))]
      [.vec 2 true ((List.range i).map (fun i => encKV (markKV (k + 2 * (i : Nat)))) ++ (l.drop i).map encKV)]) l.length _
    (Ent.weak (ids := [0]) (by simp) rfl (by simp) (by simp [objsLe, envLe, find, St.obj, AObj.renF, AV.renF, AV.renF1, Leaf.renF, LowAll, AV.Low, AV.Low1, Leaf.Low, AObj.Low, Ptr.renF, Ptr.Low]) (by simp [objsLe, envLe, find, St.obj, AObj.renF, AV.renF, AV.renF1, Leaf.renF, LowAll, AV.Low, AV.Low1, Leaf.Low, AObj.Low, Ptr.renF, Ptr.Low]) (by simp [objsLe, envLe, find, St.obj, AObj.renF, AV.renF, AV.renF1, Leaf.renF, LowAll, AV.Low, AV.Low1, Leaf.Low, AObj.Low, Ptr.renF, Ptr.Low])) ⟨0, by omega, by omega, rfl⟩ ?_
  rintro n s ⟨i, hi, rfl, rfl⟩ K hK
  have hlen : ((List.range i).map (fun i => encKV (markKV (k + 2 * (i : Nat)))) ++ (l.drop i).map encKV).length = l.length := by simp; omega
  rcases Nat.lt_or_ge i l.length with hlt | hge
  · have hA : ((List.range i).map (fun i => encKV (markKV (k + 2 * (i : Nat))))).length = i := by simp
    have hd : decide ((i : Int) < l.length) = true := by simpa using hlt
    have hw := wrap_succ hlt (show l.length ≤ maxLen by unfold maxLen; omega)
    have hw1 : IntKind.i64.wrap (k + 2 * (i : Int) + 1) = k + 2 * (i : Int) + 1 := by rw [IntKind.wrap_i64]; omega
    have hw2 : IntKind.i64.wrap (k + 2 * (i : Int) + 1 + 1) = k + 2 * (i : Int) + 1 + 1 := by rw [IntKind.wrap_i64]; omega
    rw [List.drop_eq_getElem_cons hlt, List.map_cons] at hlen ⊢
    generalize hAd : (List.range i).map (fun i => encKV (markKV (k + 2 * (i : Nat)))) = A at hA hlen ⊢
    have hl1 : ∀ x, (A ++ x :: (l.drop (i + 1)).map encKV).length = l.length := fun x => by
      rw [List.length_append, List.length_cons] at hlen ⊢; exact hlen
    simp (maxSteps := 2000000) only [go_sem, ↓reduceIte, reduceCtorEq, Nat.reduceAdd, Nat.reduceMul, Nat.reduceSub, Nat.reduceLT, Nat.reduceLeDiff, Nat.reduceEqDiff, Int.reduceToNat, Int.reduceLT, Int.reduceLE, Int.reduceNeg, hl1, hd, set_mid hA, getD_mid hA, encKV, hw, hw1, hw2, D.flat]
    repeat' ((with_reducible show _ ∧ _); apply And.intro)
    all_goals first
      | (with_reducible exact hlt)
      | omega
      | (exact (by decide : ((3 : Int) = 0 → False)))
      | skip
    apply hK
    refine ⟨l.length - (i + 1), _, by omega, Ent.weak (ids := [0]) (by simp) rfl (by simp) ?_ ?_ (by simp [objsLe, envLe, find, St.obj, AObj.renF, AV.renF, AV.renF1, Leaf.renF, LowAll, AV.Low, AV.Low1, Leaf.Low, AObj.Low, Ptr.renF, Ptr.Low]), i + 1, by omega, rfl, rfl⟩
    · rw [List.range_succ, List.map_append, hAd]
      simp [objsLe, envLe, find, St.obj, AObj.renF, AV.renF, AV.renF1, Leaf.renF, LowAll, AV.Low, AV.Low1, Leaf.Low, AObj.Low, Ptr.renF, Ptr.Low]
      rfl
    · simp [objsLe, envLe, find, St.obj, AObj.renF, AV.renF, AV.renF1, Leaf.renF, LowAll, AV.Low, AV.Low1, Leaf.Low, AObj.Low, Ptr.renF, Ptr.Low]
      omega
  · have hge' : i = l.length := by omega
    subst hge'
    have hd : decide ((l.length : Int) < l.length) = false := by simp
    simp (maxSteps := 2000000) only [go_sem, ↓reduceIte, reduceCtorEq, Nat.reduceAdd, Nat.reduceMul, Nat.reduceSub, Nat.reduceLT, Nat.reduceLeDiff, Nat.reduceEqDiff, Int.reduceToNat, Int.reduceLT, Int.reduceLE, Int.reduceNeg, hlen, hd]
    apply hK
    refine evl ?_
    refine Fin.nt Tryz.results21 [0] ?_ ?_ ?_ <;> try trivial
    rw [List.drop_length, List.map_nil, List.append_nil]
    simp [objsLe, envLe, find, St.obj, AObj.renF, AV.renF, AV.renF1, Leaf.renF, LowAll, AV.Low, AV.Low1, Leaf.Low, AObj.Low, Ptr.renF, Ptr.Low]
theorem c22 (n : Nat) (k : Int) (hk0 : 0 ≤ k) (hk : k + 2 * n ≤ 4611686018427387904) : Ctr Tryz.prog 22 [.one (.dat (.sl 2 (markKVs k n))), .one (.dat (.int .i64 k))] [] (.one (.dat (.int .i64 (k + 2 * n)))) [] := by
  refine Ctr.bd mixed Tryz.func22 rfl ?_
  unfold markKVs
  refine evl ?_
  refine LoopK_intro (fun m s => ∃ i : Nat, i ≤ n ∧ m = n - i ∧ s = mkSt [(5, .one (.dat (.int .i64 i))), (1, .one (.dat (.int .i64 (k + 2 * (i : Nat))))), (0, .one (.dat (.sl 2 ((List.range n).map fun i => encKV (markKV (k + 2 * (i : Nat)))))))] []) n _
    (Ent.weak (ids := []) (by simp) rfl (by simp) (by simp [objsLe, envLe, find, St.obj, AObj.renF, AV.renF, AV.renF1, Leaf.renF, LowAll, AV.Low, AV.Low1, Leaf.Low, AObj.Low, Ptr.renF, Ptr.Low]) (by simp [objsLe, envLe, find, St.obj, AObj.renF, AV.renF, AV.renF1, Leaf.renF, LowAll, AV.Low, AV.Low1, Leaf.Low, AObj.Low, Ptr.renF, Ptr.Low]) (by simp [objsLe, envLe, find, St.obj, AObj.renF, AV.renF, AV.renF1, Leaf.renF, LowAll, AV.Low, AV.Low1, Leaf.Low, AObj.Low, Ptr.renF, Ptr.Low])) ⟨0, by omega, by omega, rfl⟩ ?_
  rintro m s ⟨i, hi, rfl, rfl⟩ K hK
  have hlen : ((List.range n).map fun i => encKV (markKV (k + 2 * (i : Nat)))).length = n := by simp
  rcases Nat.lt_or_ge i n with hlt | hge
  · have hd : decide ((i : Int) < n) = true := by simpa using hlt
    have hw := wrap_succ hlt (show n ≤ maxLen by unfold maxLen; omega)
    have hw1 : IntKind.i64.wrap (k + 2 * (i : Int) + 1) = k + 2 * (i : Int) + 1 := by rw [IntKind.wrap_i64]; omega
    have hw2 : IntKind.i64.wrap (k + 2 * (i : Int) + 1 + 1) = k + 2 * (i : Int) + 1 + 1 := by rw [IntKind.wrap_i64]; omega
    have hg : ((List.range n).map fun i => encKV (markKV (k + 2 * (i : Nat)))).getD i [] = encKV (markKV (k + 2 * (i : Nat))) := getD_range hlt
    generalize ((List.range n).map fun i => encKV (markKV (k + 2 * (i : Nat)))) = L at hlen hg hK ⊢
    simp (maxSteps := 2000000) only [go_sem, ↓reduceIte, reduceCtorEq, Nat.reduceAdd, Nat.reduceMul, Nat.reduceSub, Nat.reduceLT, Nat.reduceLeDiff, Nat.reduceEqDiff, Int.reduceToNat, Int.reduceLT, Int.reduceLE, Int.reduceNeg, hlen, hd, hg, encKV, markKV, hw, hw1, hw2]
    repeat' first
      | with_reducible intro h
      | ((with_reducible show _ ∧ _); apply And.intro)
    all_goals try (first | omega | exact hlt | exact absurd ‹(3 : Int) = 0› (by decide))
    apply hK
    refine ⟨n - (i + 1), _, by omega, Ent.weak (ids := []) (by simp) rfl (by simp) (by simp [objsLe, envLe, find, St.obj, AObj.renF, AV.renF, AV.renF1, Leaf.renF, LowAll, AV.Low, AV.Low1, Leaf.Low, AObj.Low, Ptr.renF, Ptr.Low]) (by simp [objsLe, envLe, find, St.obj, AObj.renF, AV.renF, AV.renF1, Leaf.renF, LowAll, AV.Low, AV.Low1, Leaf.Low, AObj.Low, Ptr.renF, Ptr.Low]; omega) (by simp [objsLe, envLe, find, St.obj, AObj.renF, AV.renF, AV.renF1, Leaf.renF, LowAll, AV.Low, AV.Low1, Leaf.Low, AObj.Low, Ptr.renF, Ptr.Low]), i + 1, by omega, rfl, rfl⟩
  · have hge' : i = n := by omega
    subst hge'
    have hd : decide ((i : Int) < i) = false := by simp
    simp (maxSteps := 2000000) only [go_sem, ↓reduceIte, reduceCtorEq, Nat.reduceAdd, Nat.reduceMul, Nat.reduceSub, Nat.reduceLT, Nat.reduceLeDiff, Nat.reduceEqDiff, Int.reduceToNat, Int.reduceLT, Int.reduceLE, Int.reduceNeg, List.length_range, hd]
    apply hK
    refine evl ?_
    refine Fin.nt Tryz.results22 [] ?_ ?_ ?_ <;> try trivial
structure Seen where
  Bkt : Int
  Ver : Int
  deriving DecidableEq
def encSeen (x : Seen) : List D := [.int .i64 x.Bkt, .int .i64 x.Ver]
def Seen.wf (x : Seen) : Prop := (Lit.int .i64 x.Bkt).wf = true ∧ (Lit.int .i64 x.Ver).wf = true ∧ True
theorem Seen.eq_iff (x y : Seen) : x = y ↔ x.Bkt = y.Bkt ∧ x.Ver = y.Ver := by cases x; cases y; simp
def markSeen (k : Int) : Seen := ⟨k, k + 1⟩
def markSeens (k : Int) (n : Nat) : List (List D) := (List.range n).map fun i => encSeen (markSeen (k + 2 * (i : Nat)))
theorem markSeens_length (k : Int) (n : Nat) : (markSeens k n).length = n := by simp [markSeens]
structure Write where
  Key : Int
  Del : Bool
  Val : Int
  deriving DecidableEq
def encWrite (x : Write) : List D := [.int .i64 x.Key, .bool x.Del, .int .i64 x.Val]
def Write.wf (x : Write) : Prop := (Lit.int .i64 x.Key).wf = true ∧ (Lit.int .i64 x.Val).wf = true ∧ True
theorem Write.eq_iff (x y : Write) : x = y ↔ x.Key = y.Key ∧ x.Del = y.Del ∧ x.Val = y.Val := by cases x; cases y; simp
def markWrite (k : Int) : Write := ⟨k, (k + 1).tmod 3 == 0, k + 1 + 1⟩
def markWrites (k : Int) (n : Nat) : List (List D) := (List.range n).map fun i => encWrite (markWrite (k + 3 * (i : Nat)))
theorem markWrites_length (k : Int) (n : Nat) : (markWrites k n).length = n := by simp [markWrites]
structure Cmd where
  Kind : Int
  Key : Int
  Val : Int
  deriving DecidableEq
def encCmd (x : Cmd) : List D := [.int .i64 x.Kind, .int .i64 x.Key, .int .i64 x.Val]
def Cmd.wf (x : Cmd) : Prop := (Lit.int .i64 x.Kind).wf = true ∧ (Lit.int .i64 x.Key).wf = true ∧ (Lit.int .i64 x.Val).wf = true ∧ True
theorem Cmd.eq_iff (x y : Cmd) : x = y ↔ x.Kind = y.Kind ∧ x.Key = y.Key ∧ x.Val = y.Val := by cases x; cases y; simp
def markCmd (k : Int) : Cmd := ⟨k, k + 1, k + 1 + 1⟩
def markCmds (k : Int) (n : Nat) : List (List D) := (List.range n).map fun i => encCmd (markCmd (k + 3 * (i : Nat)))
theorem markCmds_length (k : Int) (n : Nat) : (markCmds k n).length = n := by simp [markCmds]
structure Bkt where
  Head : Int
  Ver : Int
  Lock : Int
  deriving DecidableEq
def encBkt (x : Bkt) : List D := [.int .i64 x.Head, .int .i64 x.Ver, .int .i64 x.Lock]
def Bkt.wf (x : Bkt) : Prop := (Lit.int .i64 x.Head).wf = true ∧ (Lit.int .i64 x.Ver).wf = true ∧ (Lit.int .i64 x.Lock).wf = true ∧ True
theorem Bkt.eq_iff (x y : Bkt) : x = y ↔ x.Head = y.Head ∧ x.Ver = y.Ver ∧ x.Lock = y.Lock := by cases x; cases y; simp
theorem c30 (x : Bkt) : Ctr Tryz.prog 30 [.agg ((encBkt x).map .dat)] [] (.agg ((encBkt x).map .dat)) [] := by
  simp only [encBkt, List.map_cons, List.map_nil]
  refine Ctr.bd mixed Tryz.func30 rfl ?_
  refine evl ?_
  repeat' first
    | ((with_reducible show Abs.Fin _ _ _ _ _ _); refine Fin.nt Tryz.results30 [] ?_ ?_ ?_ <;> try trivial)
    | with_reducible intro h
    | ((with_reducible show _ ∧ _); apply And.intro)
  all_goals first | rfl | simp
theorem c32 (x y : Bkt) : Ctr Tryz.prog 32 [.agg ((encBkt x).map .dat), .agg ((encBkt y).map .dat)] [] (.one (.dat (.bool (decide (x = y))))) [] := by
  simp only [encBkt, List.map_cons, List.map_nil]
  refine Ctr.bd mixed Tryz.func32 rfl ?_
  refine evl ?_
  repeat' first
    | ((with_reducible show Abs.Fin _ _ _ _ _ _); refine Fin.nt Tryz.results32 [] ?_ ?_ ?_ <;> try trivial)
    | with_reducible intro h
    | ((with_reducible show _ ∧ _); apply And.intro)
  all_goals try (first | exact True.intro | (refine rsl ?_; try exact True.intro))
  all_goals simp_all [Bkt.eq_iff]
def markBkt (k : Int) : Bkt := ⟨k, k + 1, k + 1 + 1⟩
def markBkts (k : Int) (n : Nat) : List (List D) := (List.range n).map fun i => encBkt (markBkt (k + 3 * (i : Nat)))
theorem markBkts_length (k : Int) (n : Nat) : (markBkts k n).length = n := by simp [markBkts]
structure Node where
  Key : Int
  Val : Int
  Next : Int
  deriving DecidableEq
def encNode (x : Node) : List D := [.int .i64 x.Key, .int .i64 x.Val, .int .i64 x.Next]
def Node.wf (x : Node) : Prop := (Lit.int .i64 x.Key).wf = true ∧ (Lit.int .i64 x.Val).wf = true ∧ (Lit.int .i64 x.Next).wf = true ∧ True
theorem Node.eq_iff (x y : Node) : x = y ↔ x.Key = y.Key ∧ x.Val = y.Val ∧ x.Next = y.Next := by cases x; cases y; simp
theorem c27 (x : Node) : Ctr Tryz.prog 27 [.agg ((encNode x).map .dat)] [] (.agg ((encNode x).map .dat)) [] := by
  simp only [encNode, List.map_cons, List.map_nil]
  refine Ctr.bd mixed Tryz.func27 rfl ?_
  refine evl ?_
  repeat' first
    | ((with_reducible show Abs.Fin _ _ _ _ _ _); refine Fin.nt Tryz.results27 [] ?_ ?_ ?_ <;> try trivial)
    | with_reducible intro h
    | ((with_reducible show _ ∧ _); apply And.intro)
  all_goals first | rfl | simp
def markNode (k : Int) : Node := ⟨k, k + 1, k + 1 + 1⟩
def markNodes (k : Int) (n : Nat) : List (List D) := (List.range n).map fun i => encNode (markNode (k + 3 * (i : Nat)))
theorem markNodes_length (k : Int) (n : Nat) : (markNodes k n).length = n := by simp [markNodes]
structure LRow where
  Handle : Int
  Epoch : Int
  deriving DecidableEq
def encLRow (x : LRow) : List D := [.int .i64 x.Handle, .int .i64 x.Epoch]
def LRow.wf (x : LRow) : Prop := (Lit.int .i64 x.Handle).wf = true ∧ (Lit.int .i64 x.Epoch).wf = true ∧ True
theorem LRow.eq_iff (x y : LRow) : x = y ↔ x.Handle = y.Handle ∧ x.Epoch = y.Epoch := by cases x; cases y; simp
def markLRow (k : Int) : LRow := ⟨k, k + 1⟩
def markLRows (k : Int) (n : Nat) : List (List D) := (List.range n).map fun i => encLRow (markLRow (k + 2 * (i : Nat)))
theorem markLRows_length (k : Int) (n : Nat) : (markLRows k n).length = n := by simp [markLRows]
structure Op where
  Kind : Int
  Cell : Int
  Size : Int
  Val : Int
  deriving DecidableEq
def encOp (x : Op) : List D := [.int .i64 x.Kind, .int .i64 x.Cell, .int .i64 x.Size, .int .i64 x.Val]
def Op.wf (x : Op) : Prop := (Lit.int .i64 x.Kind).wf = true ∧ (Lit.int .i64 x.Cell).wf = true ∧ (Lit.int .i64 x.Size).wf = true ∧ (Lit.int .i64 x.Val).wf = true ∧ True
theorem Op.eq_iff (x y : Op) : x = y ↔ x.Kind = y.Kind ∧ x.Cell = y.Cell ∧ x.Size = y.Size ∧ x.Val = y.Val := by cases x; cases y; simp
def markOp (k : Int) : Op := ⟨k, k + 1, k + 1 + 1, k + 1 + 1 + 1⟩
def markOps (k : Int) (n : Nat) : List (List D) := (List.range n).map fun i => encOp (markOp (k + 4 * (i : Nat)))
theorem markOps_length (k : Int) (n : Nat) : (markOps k n).length = n := by simp [markOps]
structure Span where
  From : Int
  To : Int
  deriving DecidableEq
def encSpan (x : Span) : List D := [.int .i64 x.From, .int .i64 x.To]
def Span.wf (x : Span) : Prop := (Lit.int .i64 x.From).wf = true ∧ (Lit.int .i64 x.To).wf = true ∧ True
theorem Span.eq_iff (x y : Span) : x = y ↔ x.From = y.From ∧ x.To = y.To := by cases x; cases y; simp
def markSpan (k : Int) : Span := ⟨k, k + 1⟩
def markSpans (k : Int) (n : Nat) : List (List D) := (List.range n).map fun i => encSpan (markSpan (k + 2 * (i : Nat)))
theorem markSpans_length (k : Int) (n : Nat) : (markSpans k n).length = n := by simp [markSpans]
structure Pin where
  On : Bool
  Epoch : Int
  Marked : Bool
  Seen : Int
  deriving DecidableEq
def encPin (x : Pin) : List D := [.bool x.On, .int .i64 x.Epoch, .bool x.Marked, .int .i64 x.Seen]
def Pin.wf (x : Pin) : Prop := (Lit.int .i64 x.Epoch).wf = true ∧ (Lit.int .i64 x.Seen).wf = true ∧ True
theorem Pin.eq_iff (x y : Pin) : x = y ↔ x.On = y.On ∧ x.Epoch = y.Epoch ∧ x.Marked = y.Marked ∧ x.Seen = y.Seen := by cases x; cases y; simp
def markPin (k : Int) : Pin := ⟨(k).tmod 3 == 0, k + 1, (k + 1 + 1).tmod 3 == 0, k + 1 + 1 + 1⟩
def markPins (k : Int) (n : Nat) : List (List D) := (List.range n).map fun i => encPin (markPin (k + 4 * (i : Nat)))
theorem markPins_length (k : Int) (n : Nat) : (markPins k n).length = n := by simp [markPins]
structure Res where
  Is : Bool
  Val : Int
  deriving DecidableEq
def encRes (x : Res) : List D := [.bool x.Is, .int .i64 x.Val]
def Res.wf (x : Res) : Prop := (Lit.int .i64 x.Val).wf = true ∧ True
theorem Res.eq_iff (x y : Res) : x = y ↔ x.Is = y.Is ∧ x.Val = y.Val := by cases x; cases y; simp
def markRes (k : Int) : Res := ⟨(k).tmod 3 == 0, k + 1⟩
def markRess (k : Int) (n : Nat) : List (List D) := (List.range n).map fun i => encRes (markRes (k + 2 * (i : Nat)))
theorem markRess_length (k : Int) (n : Nat) : (markRess k n).length = n := by simp [markRess]
structure Ev where
  Kind : Int
  Who : Int
  Serial : Int
  Cell : Int
  Handle : Int
  Val : Int
  Code : Int
  deriving DecidableEq
def encEv (x : Ev) : List D := [.int .i64 x.Kind, .int .i64 x.Who, .int .i64 x.Serial, .int .i64 x.Cell, .int .i64 x.Handle, .int .i64 x.Val, .int .i64 x.Code]
def Ev.wf (x : Ev) : Prop := (Lit.int .i64 x.Kind).wf = true ∧ (Lit.int .i64 x.Who).wf = true ∧ (Lit.int .i64 x.Serial).wf = true ∧ (Lit.int .i64 x.Cell).wf = true ∧ (Lit.int .i64 x.Handle).wf = true ∧ (Lit.int .i64 x.Val).wf = true ∧ (Lit.int .i64 x.Code).wf = true ∧ True
theorem Ev.eq_iff (x y : Ev) : x = y ↔ x.Kind = y.Kind ∧ x.Who = y.Who ∧ x.Serial = y.Serial ∧ x.Cell = y.Cell ∧ x.Handle = y.Handle ∧ x.Val = y.Val ∧ x.Code = y.Code := by cases x; cases y; simp
def markEv (k : Int) : Ev := ⟨k, k + 1, k + 1 + 1, k + 1 + 1 + 1, k + 1 + 1 + 1 + 1, k + 1 + 1 + 1 + 1 + 1, k + 1 + 1 + 1 + 1 + 1 + 1⟩
def markEvs (k : Int) (n : Nat) : List (List D) := (List.range n).map fun i => encEv (markEv (k + 7 * (i : Nat)))
theorem markEvs_length (k : Int) (n : Nat) : (markEvs k n).length = n := by simp [markEvs]
end Go.Proofs.YtacmmahhlognnaaGreat.Mod
