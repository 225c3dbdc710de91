/- FnExactBatchOk: the program answers as the statement says, at every argument. -/
import Derived.Test.YtkfpkemibnmkoaaRows
import Derived.Test.YtkfpkemibnmkoaaTy
import Derived.Test.YtkfpkemibnmkoaaAbsEval
import Derived.Test.YtkfpkemibnmkoaaAbsData
import Derived.Test.YtkfpkemibnmkoaaMFam2
import Derived.Test.YtkfpkemibnmkoaaMHist
import Derived.WalkKit
import Derived.ProofKit
import Derived.OpenShut
namespace Go.Proofs.Ytkfpkemibnmkoaa.fnExactBatchOk
open Go.Abs Go.Proofs.Ytkfpkemibnmkoaa.Ty Go.ChangeShapes Go.WideShapes Go.ChangeAt Go.RowKit Go.Proofs.Ytkfpkemibnmkoaa.Mod
set_option linter.unusedSimpArgs false
set_option linter.unusedVariables false
set_option maxHeartbeats 8000000
set_option maxRecDepth 100000
theorem c10 (b : Batch) (hkb : b.lok) : Ctr Try.prog 10 [.agg ((encBatch b).map .dat)] [] (.one (.dat (.bool true))) [] := by
  simp only [encBatch, List.map_cons, List.map_nil]
  refine Ctr.body mixed Try.func10 rfl (by kernel_rfl) (Nat.le_of_ble_eq_true rfl) (by simp [AV.Clean, AV.Clean1, Leaf.Clean, D.flat]) (by simp [AObj.Sep]) (by simp [AV.Low, AV.Low1, Leaf.Low]) ?_
  simp (maxSteps := 2000000) only [go_sem, ↓reduceIte, reduceCtorEq, Nat.reduceAdd, Nat.reduceMul, Nat.reduceSub, Nat.reduceLT, Nat.reduceLeDiff, Nat.reduceEqDiff, Int.reduceToNat, Int.reduceLT, Int.reduceLE, Int.reduceNeg, List.length_map]
  repeat ((with_reducible show _ = true ∧ _); refine ⟨by kernel_rfl, ?_⟩)
  refine CallK_pure e54 (c54 b hkb 1048576 (by decide) (by decide)) rfl ?_
  simp (maxSteps := 2000000) only [go_sem, ↓reduceIte, reduceCtorEq, Nat.reduceAdd, Nat.reduceMul, Nat.reduceSub, Nat.reduceLT, Nat.reduceLeDiff, Nat.reduceEqDiff, Int.reduceToNat, Int.reduceLT, Int.reduceLE, Int.reduceNeg, List.length_map]
  repeat ((with_reducible show _ = true ∧ _); refine ⟨by kernel_rfl, ?_⟩)
  refine ⟨fun h => ?_, fun h => ?_⟩
  · refine Fin.intro Try.results10 [] (by simp (maxSteps := 2000000) only [go_sem, ↓reduceIte, reduceCtorEq, Nat.reduceAdd, Nat.reduceMul, Nat.reduceSub, Nat.reduceLT, Nat.reduceLeDiff, Nat.reduceEqDiff, Int.reduceToNat, Int.reduceLT, Int.reduceLE, Int.reduceNeg, resA]; rfl) ?_ ?_ (by simp) rfl (by simp) ?_ <;> try trivial
  obtain ⟨hsb, hzb, hgb, hhb⟩ := szL_le (by decide) h
  clear h
  first
    | refine CallK_pure e56 (c56 b hsb) rfl ?_
    | refine CCallK_plain e56 (c56 b hsb) rfl rfl ?_ (fun _ => by simp)
    | refine Or.inl (CCallK_plain e56 (c56 b hsb) rfl rfl ?_ (fun _ => by simp))
    | refine Or.inr ⟨by kernel_rfl, EffK_pure e56 (c56 b hsb) rfl ?_⟩
    | refine Or.inr (EffK_pure e56 (c56 b hsb) rfl ?_)
  simp (maxSteps := 2000000) only [go_sem, ↓reduceIte, reduceCtorEq, Nat.reduceAdd, Nat.reduceMul, Nat.reduceSub, Nat.reduceLT, Nat.reduceLeDiff, Nat.reduceEqDiff, Int.reduceToNat, Int.reduceLT, Int.reduceLE, Int.reduceNeg, List.length_map]
  repeat ((with_reducible show _ = true ∧ _); refine ⟨by kernel_rfl, ?_⟩)
  first
    | refine CallK_pure e55 (c55 b (by unfold sizBatch at hsb; have : maxLen = 9223372036854775807 := rfl; omega)) rfl ?_
    | refine CCallK_plain e55 (c55 b (by unfold sizBatch at hsb; have : maxLen = 9223372036854775807 := rfl; omega)) rfl rfl ?_ (fun _ => by simp)
    | refine Or.inl (CCallK_plain e55 (c55 b (by unfold sizBatch at hsb; have : maxLen = 9223372036854775807 := rfl; omega)) rfl rfl ?_ (fun _ => by simp))
    | refine Or.inr ⟨by kernel_rfl, EffK_pure e55 (c55 b (by unfold sizBatch at hsb; have : maxLen = 9223372036854775807 := rfl; omega)) rfl ?_⟩
    | refine Or.inr (EffK_pure e55 (c55 b (by unfold sizBatch at hsb; have : maxLen = 9223372036854775807 := rfl; omega)) rfl ?_)
  simp (maxSteps := 2000000) only [go_sem, ↓reduceIte, reduceCtorEq, Nat.reduceAdd, Nat.reduceMul, Nat.reduceSub, Nat.reduceLT, Nat.reduceLeDiff, Nat.reduceEqDiff, Int.reduceToNat, Int.reduceLT, Int.reduceLE, Int.reduceNeg, List.length_map]
  repeat ((with_reducible show _ = true ∧ _); refine ⟨by kernel_rfl, ?_⟩)
  first
    | refine CallK_pure e56 (c56 b hsb) rfl ?_
    | refine CCallK_plain e56 (c56 b hsb) rfl rfl ?_ (fun _ => by simp)
    | refine Or.inl (CCallK_plain e56 (c56 b hsb) rfl rfl ?_ (fun _ => by simp))
    | refine Or.inr ⟨by kernel_rfl, EffK_pure e56 (c56 b hsb) rfl ?_⟩
    | refine Or.inr (EffK_pure e56 (c56 b hsb) rfl ?_)
  simp (maxSteps := 2000000) only [go_sem, ↓reduceIte, reduceCtorEq, Nat.reduceAdd, Nat.reduceMul, Nat.reduceSub, Nat.reduceLT, Nat.reduceLeDiff, Nat.reduceEqDiff, Int.reduceToNat, Int.reduceLT, Int.reduceLE, Int.reduceNeg, List.length_map]
  repeat ((with_reducible show _ = true ∧ _); refine ⟨by kernel_rfl, ?_⟩)
  first
    | refine CallK_pure e57 (c57 b (by unfold sizBatch at hsb; have : maxLen = 9223372036854775807 := rfl; omega)) rfl ?_
    | refine CCallK_plain e57 (c57 b (by unfold sizBatch at hsb; have : maxLen = 9223372036854775807 := rfl; omega)) rfl rfl ?_ (fun _ => by simp)
    | refine Or.inl (CCallK_plain e57 (c57 b (by unfold sizBatch at hsb; have : maxLen = 9223372036854775807 := rfl; omega)) rfl rfl ?_ (fun _ => by simp))
    | refine Or.inr ⟨by kernel_rfl, EffK_pure e57 (c57 b (by unfold sizBatch at hsb; have : maxLen = 9223372036854775807 := rfl; omega)) rfl ?_⟩
    | refine Or.inr (EffK_pure e57 (c57 b (by unfold sizBatch at hsb; have : maxLen = 9223372036854775807 := rfl; omega)) rfl ?_)
  simp (maxSteps := 2000000) only [go_sem, ↓reduceIte, reduceCtorEq, Nat.reduceAdd, Nat.reduceMul, Nat.reduceSub, Nat.reduceLT, Nat.reduceLeDiff, Nat.reduceEqDiff, Int.reduceToNat, Int.reduceLT, Int.reduceLE, Int.reduceNeg, List.length_map]
  repeat ((with_reducible show _ = true ∧ _); refine ⟨by kernel_rfl, ?_⟩)
  first
    | refine CallK_pure e56 (c56 b hsb) rfl ?_
    | refine CCallK_plain e56 (c56 b hsb) rfl rfl ?_ (fun _ => by simp)
    | refine Or.inl (CCallK_plain e56 (c56 b hsb) rfl rfl ?_ (fun _ => by simp))
    | refine Or.inr ⟨by kernel_rfl, EffK_pure e56 (c56 b hsb) rfl ?_⟩
    | refine Or.inr (EffK_pure e56 (c56 b hsb) rfl ?_)
  simp (maxSteps := 2000000) only [go_sem, ↓reduceIte, reduceCtorEq, Nat.reduceAdd, Nat.reduceMul, Nat.reduceSub, Nat.reduceLT, Nat.reduceLeDiff, Nat.reduceEqDiff, Int.reduceToNat, Int.reduceLT, Int.reduceLE, Int.reduceNeg, List.length_map]
  repeat ((with_reducible show _ = true ∧ _); refine ⟨by kernel_rfl, ?_⟩)
  first
    | refine CallK_pure e58 (c58 b b hsb hsb) rfl ?_
    | refine CCallK_plain e58 (c58 b b hsb hsb) rfl rfl ?_ (fun _ => by simp)
    | refine Or.inl (CCallK_plain e58 (c58 b b hsb hsb) rfl rfl ?_ (fun _ => by simp))
    | refine Or.inr ⟨by kernel_rfl, EffK_pure e58 (c58 b b hsb hsb) rfl ?_⟩
    | refine Or.inr (EffK_pure e58 (c58 b b hsb hsb) rfl ?_)
  simp (maxSteps := 2000000) only [go_sem, ↓reduceIte, reduceCtorEq, Nat.reduceAdd, Nat.reduceMul, Nat.reduceSub, Nat.reduceLT, Nat.reduceLeDiff, Nat.reduceEqDiff, Int.reduceToNat, Int.reduceLT, Int.reduceLE, Int.reduceNeg, List.length_map]
  repeat ((with_reducible show _ = true ∧ _); refine ⟨by kernel_rfl, ?_⟩)
  refine Fin.intro Try.results10 [] (by simp (maxSteps := 2000000) only [go_sem, ↓reduceIte, reduceCtorEq, Nat.reduceAdd, Nat.reduceMul, Nat.reduceSub, Nat.reduceLT, Nat.reduceLeDiff, Nat.reduceEqDiff, Int.reduceToNat, Int.reduceLT, Int.reduceLE, Int.reduceNeg, resA]; rfl) ?_ ?_ (by simp) rfl (by simp) ?_ <;> try trivial
theorem law (dss : List (List D)) (h : WTAll Try.prog 8 Try.f10.params.toList dss) : Ctr Try.prog 10 (argAVs Try.prog Try.f10.params.toList dss) [] (.one (.dat (.bool true))) [] := by
  rw [Try.params10] at *
  simp only [WTAll, List.toList_toArray] at h
  obtain ⟨_, _, rfl, h0, rfl⟩ := h
  obtain ⟨x0, rfl, w0, k0⟩ := decBatch _ _ h0
  simp only [argAVs, argAV, List.toList_toArray, Try.underlying78, List.headD_cons]
  exact c10 x0 k0

theorem own : ownKnob Try.prog.godebug = none := by kernel_rfl

set_option maxRecDepth 100000 in
theorem lifted (os : Os) (started : os.Started) (H : Type) (enc : TypeId × Value → H) :
    ReturnsInHanded {} Try.checked os 10 .any (Rows.fnExactBatchOkSpec.pre6 enc Try.prog Try.f10 Rows.fnExactBatchOkRow.domain false) (Rows.fnExactBatchOkSpec.post enc Try.prog Try.f10 false true false false) := by
  refine returnsInHanded_of_change (C := Try.checked) own started (by kernel_rfl) Try.func10
    (ChangeSpec.witness6 (enc := enc) (C := Try.checked) false ⟨#[], #[.agg #[.bool false, .slice none 0 0]], []⟩ 8 (by kernel_rfl) (by kernel_rfl) (by kernel_rfl) (by kernel_rfl)) ?_
  intro W base args ds gs before hval0 hW hcnd _
  have hW' := hW
  obtain ⟨p, q, hA0, hV, rfl, hfz, hnd⟩ := hW'
  have hA : DataW.TrodAll enc Try.prog W 0 (fun _ => true) true Try.f10.params.toList args.toList ds p := hA0
  obtain ⟨dss, h1, h2⟩ := args_rep (n := 8) (by kernel_rfl) (fun j t v hj hv => hval0 j t v (by simpa using hj) (by simpa using hv)) hA
  have hs : Rows.fnExactBatchOkSpec.fn H (ds ++ gs) = { results := [.lit (.bool true)], args := ds, vars := [] } := by
    obtain ⟨rfl, rfl⟩ := trodVars_none hV
    rw [Try.params10] at hA
    obtain ⟨v0, vs0, d0, ds0, p0, q0, _, rfl, _, _, r0⟩ := trodAll_cons hA
    obtain ⟨_, rfl, _⟩ := trodAll_nil r0
    rfl
  have hc := law_calls (law dss h1) h2
  rw [Array.toArray_toList] at hc
  refine hc.mono fun e W' ⟨he, hb⟩ => ?_
  subst he
  exact ⟨_, rfl, law_post (by kernel_rfl) (by kernel_rfl) rfl hW hs rfl Try.underlying4 hb⟩

theorem over : Rows.fnExactBatchOkRow.holds Try.pinned (OpenSpec.ofChange Rows.fnExactBatchOkSpec) :=
  OpenClaim.holds_of_wide 10 Try.f10 rfl rfl rfl rfl rfl rfl rfl ⟨rfl, rfl, rfl, rfl, rfl⟩ rfl rfl rfl rfl rfl (by kernel_rfl) Try.func10 (by kernel_rfl)
    (of_decide_eq_true (by kernel_rfl)) (by unfold Func.isWrapper; first | (rw [if_pos (by decide +kernel)]; kernel_rfl) | (rw [if_neg (by decide +kernel)]; exact ⟨rfl, rfl⟩))
    (fun os started H enc _ => lifted os started H enc)

theorem proved : Rows.FnExactBatchOkSaid :=
  over
end Go.Proofs.Ytkfpkemibnmkoaa.fnExactBatchOk
