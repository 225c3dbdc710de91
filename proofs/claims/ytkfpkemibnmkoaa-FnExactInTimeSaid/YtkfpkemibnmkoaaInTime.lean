/- FnExactInTime: the program answers as the statement says, at every argument. -/
import Derived.Test.YtkfpkemibnmkoaaRows
import Derived.Test.YtkfpkemibnmkoaaTy
import Derived.Test.YtkfpkemibnmkoaaAbsEval
import Derived.Test.YtkfpkemibnmkoaaAbsData
import Derived.Test.YtkfpkemibnmkoaaMFam2
import Derived.Test.YtkfpkemibnmkoaaMHist
import Derived.WalkKit
import Derived.ProofKit
import Derived.OpenShut
namespace Go.Proofs.Ytkfpkemibnmkoaa.fnExactInTime
open Go.Abs Go.Proofs.Ytkfpkemibnmkoaa.Ty Go.ChangeShapes Go.WideShapes Go.ChangeAt Go.RowKit Go.Proofs.Ytkfpkemibnmkoaa.Mod
set_option linter.unusedSimpArgs false
set_option linter.unusedVariables false
set_option maxHeartbeats 8000000
set_option maxRecDepth 100000
theorem c13 (l : List TEv) (hll : l.length ≤ maxLen) (hkl : ∀ y ∈ l, y.lok) (a : Int) (b : Int) : Ctr Try.prog 13 [.one (.dat (.sl 6 (l.map encTEv))), .one (.dat (.int .i64 a)), .one (.dat (.int .i64 b))] [] (.one (.dat (.bool true))) [] := by
  refine Ctr.body mixed Try.func13 rfl (by kernel_rfl) (Nat.le_of_ble_eq_true rfl) (by simp [AV.Clean, AV.Clean1, Leaf.Clean, D.flat]) (by simp [AObj.Sep]) (by simp [AV.Low, AV.Low1, Leaf.Low]) ?_
  simp (maxSteps := 2000000) only [go_sem, ↓reduceIte, reduceCtorEq, Nat.reduceAdd, Nat.reduceMul, Nat.reduceSub, Nat.reduceLT, Nat.reduceLeDiff, Nat.reduceEqDiff, Int.reduceToNat, Int.reduceLT, Int.reduceLE, Int.reduceNeg, List.length_map]
  repeat ((with_reducible show _ = true ∧ _); refine ⟨by kernel_rfl, ?_⟩)
  refine CallK_pure e59 (c59 l hll hkl 1048576 (by decide) (by decide)) rfl ?_
  simp (maxSteps := 2000000) only [go_sem, ↓reduceIte, reduceCtorEq, Nat.reduceAdd, Nat.reduceMul, Nat.reduceSub, Nat.reduceLT, Nat.reduceLeDiff, Nat.reduceEqDiff, Int.reduceToNat, Int.reduceLT, Int.reduceLE, Int.reduceNeg, List.length_map]
  repeat ((with_reducible show _ = true ∧ _); refine ⟨by kernel_rfl, ?_⟩)
  refine ⟨fun h => ?_, fun h => ?_⟩
  · refine Fin.intro Try.results13 [] (by simp (maxSteps := 2000000) only [go_sem, ↓reduceIte, reduceCtorEq, Nat.reduceAdd, Nat.reduceMul, Nat.reduceSub, Nat.reduceLT, Nat.reduceLeDiff, Nat.reduceEqDiff, Int.reduceToNat, Int.reduceLT, Int.reduceLE, Int.reduceNeg, resA]; rfl) ?_ ?_ (by simp) rfl (by simp) ?_ <;> try trivial
  obtain ⟨hsl, hzl, hgl, hhl⟩ := szL_le (by decide) h
  clear h
  have hnl : l.length ≤ 1048576 := by unfold sizTEvS at hsl; omega
  first
    | refine CallK_pure e61 (c61 l hsl) rfl ?_
    | refine CCallK_plain e61 (c61 l hsl) rfl rfl ?_ (fun _ => by simp)
    | refine Or.inl (CCallK_plain e61 (c61 l hsl) rfl rfl ?_ (fun _ => by simp))
    | refine Or.inr ⟨by kernel_rfl, EffK_pure e61 (c61 l hsl) rfl ?_⟩
    | refine Or.inr (EffK_pure e61 (c61 l hsl) rfl ?_)
  simp (maxSteps := 2000000) only [go_sem, ↓reduceIte, reduceCtorEq, Nat.reduceAdd, Nat.reduceMul, Nat.reduceSub, Nat.reduceLT, Nat.reduceLeDiff, Nat.reduceEqDiff, Int.reduceToNat, Int.reduceLT, Int.reduceLE, Int.reduceNeg, List.length_map]
  repeat ((with_reducible show _ = true ∧ _); refine ⟨by kernel_rfl, ?_⟩)
  first
    | refine CallK_pure e66 (c66 l hll a b) rfl ?_
    | refine CCallK_plain e66 (c66 l hll a b) rfl rfl ?_ (fun _ => by simp)
    | refine Or.inl (CCallK_plain e66 (c66 l hll a b) rfl rfl ?_ (fun _ => by simp))
    | refine Or.inr ⟨by kernel_rfl, EffK_pure e66 (c66 l hll a b) rfl ?_⟩
    | refine Or.inr (EffK_pure e66 (c66 l hll a b) rfl ?_)
  simp (maxSteps := 2000000) only [go_sem, ↓reduceIte, reduceCtorEq, Nat.reduceAdd, Nat.reduceMul, Nat.reduceSub, Nat.reduceLT, Nat.reduceLeDiff, Nat.reduceEqDiff, Int.reduceToNat, Int.reduceLT, Int.reduceLE, Int.reduceNeg, List.length_map]
  repeat ((with_reducible show _ = true ∧ _); refine ⟨by kernel_rfl, ?_⟩)
  first
    | refine CallK_pure e61 (c61 l hsl) rfl ?_
    | refine CCallK_plain e61 (c61 l hsl) rfl rfl ?_ (fun _ => by simp)
    | refine Or.inl (CCallK_plain e61 (c61 l hsl) rfl rfl ?_ (fun _ => by simp))
    | refine Or.inr ⟨by kernel_rfl, EffK_pure e61 (c61 l hsl) rfl ?_⟩
    | refine Or.inr (EffK_pure e61 (c61 l hsl) rfl ?_)
  simp (maxSteps := 2000000) only [go_sem, ↓reduceIte, reduceCtorEq, Nat.reduceAdd, Nat.reduceMul, Nat.reduceSub, Nat.reduceLT, Nat.reduceLeDiff, Nat.reduceEqDiff, Int.reduceToNat, Int.reduceLT, Int.reduceLE, Int.reduceNeg, List.length_map]
  repeat ((with_reducible show _ = true ∧ _); refine ⟨by kernel_rfl, ?_⟩)
  first
    | refine CallK_pure e67 (c67 l hll a b) rfl ?_
    | refine CCallK_plain e67 (c67 l hll a b) rfl rfl ?_ (fun _ => by simp)
    | refine Or.inl (CCallK_plain e67 (c67 l hll a b) rfl rfl ?_ (fun _ => by simp))
    | refine Or.inr ⟨by kernel_rfl, EffK_pure e67 (c67 l hll a b) rfl ?_⟩
    | refine Or.inr (EffK_pure e67 (c67 l hll a b) rfl ?_)
  simp (maxSteps := 2000000) only [go_sem, ↓reduceIte, reduceCtorEq, Nat.reduceAdd, Nat.reduceMul, Nat.reduceSub, Nat.reduceLT, Nat.reduceLeDiff, Nat.reduceEqDiff, Int.reduceToNat, Int.reduceLT, Int.reduceLE, Int.reduceNeg, List.length_map]
  repeat ((with_reducible show _ = true ∧ _); refine ⟨by kernel_rfl, ?_⟩)
  first
    | refine CallK_pure e61 (c61 l hsl) rfl ?_
    | refine CCallK_plain e61 (c61 l hsl) rfl rfl ?_ (fun _ => by simp)
    | refine Or.inl (CCallK_plain e61 (c61 l hsl) rfl rfl ?_ (fun _ => by simp))
    | refine Or.inr ⟨by kernel_rfl, EffK_pure e61 (c61 l hsl) rfl ?_⟩
    | refine Or.inr (EffK_pure e61 (c61 l hsl) rfl ?_)
  simp (maxSteps := 2000000) only [go_sem, ↓reduceIte, reduceCtorEq, Nat.reduceAdd, Nat.reduceMul, Nat.reduceSub, Nat.reduceLT, Nat.reduceLeDiff, Nat.reduceEqDiff, Int.reduceToNat, Int.reduceLT, Int.reduceLE, Int.reduceNeg, List.length_map]
  repeat ((with_reducible show _ = true ∧ _); refine ⟨by kernel_rfl, ?_⟩)
  first
    | refine CallK_pure e63 (c63 l l hsl hsl) rfl ?_
    | refine CCallK_plain e63 (c63 l l hsl hsl) rfl rfl ?_ (fun _ => by simp)
    | refine Or.inl (CCallK_plain e63 (c63 l l hsl hsl) rfl rfl ?_ (fun _ => by simp))
    | refine Or.inr ⟨by kernel_rfl, EffK_pure e63 (c63 l l hsl hsl) rfl ?_⟩
    | refine Or.inr (EffK_pure e63 (c63 l l hsl hsl) rfl ?_)
  simp (maxSteps := 2000000) only [go_sem, ↓reduceIte, reduceCtorEq, Nat.reduceAdd, Nat.reduceMul, Nat.reduceSub, Nat.reduceLT, Nat.reduceLeDiff, Nat.reduceEqDiff, Int.reduceToNat, Int.reduceLT, Int.reduceLE, Int.reduceNeg, List.length_map]
  repeat ((with_reducible show _ = true ∧ _); refine ⟨by kernel_rfl, ?_⟩)
  refine Fin.intro Try.results13 [] (by simp (maxSteps := 2000000) only [go_sem, ↓reduceIte, reduceCtorEq, Nat.reduceAdd, Nat.reduceMul, Nat.reduceSub, Nat.reduceLT, Nat.reduceLeDiff, Nat.reduceEqDiff, Int.reduceToNat, Int.reduceLT, Int.reduceLE, Int.reduceNeg, resA]; rfl) ?_ ?_ (by simp) rfl (by simp) ?_ <;> try trivial
theorem law (dss : List (List D)) (h : WTAll Try.prog 8 Try.f13.params.toList dss) : Ctr Try.prog 13 (argAVs Try.prog Try.f13.params.toList dss) [] (.one (.dat (.bool true))) [] := by
  rw [Try.params13] at *
  simp only [WTAll, List.toList_toArray] at h
  obtain ⟨_, _, rfl, h0, ⟨_, _, rfl, h1, ⟨_, _, rfl, h2, rfl⟩⟩⟩ := h
  obtain ⟨x0, rfl, c0, w0⟩ := decSl (enc := encTEv) (q := fun x => x.wf ∧ x.lok) Try.underlying86 tc_133 decTEv h0
  obtain ⟨x1, rfl, w1⟩ := decInt Try.underlying3 h1
  obtain ⟨x2, rfl, w2⟩ := decInt Try.underlying3 h2
  simp only [argAVs, argAV, List.toList_toArray, Try.underlying3, Try.underlying86, List.headD_cons]
  exact c13 x0 c0 (fun y hy => (w0 y hy).2) x1 x2

theorem own : ownKnob Try.prog.godebug = none := by kernel_rfl

set_option maxRecDepth 100000 in
theorem lifted (os : Os) (started : os.Started) (H : Type) (enc : TypeId × Value → H) :
    ReturnsInHanded {} Try.checked os 13 .any (Rows.fnExactInTimeSpec.pre6 enc Try.prog Try.f13 Rows.fnExactInTimeRow.domain false) (Rows.fnExactInTimeSpec.post enc Try.prog Try.f13 false true false false) := by
  refine returnsInHanded_of_change (C := Try.checked) own started (by kernel_rfl) Try.func13
    (ChangeSpec.witness6 (enc := enc) (C := Try.checked) false ⟨#[], #[.slice none 0 0, .int .i64 0, .int .i64 0], []⟩ 8 (by kernel_rfl) (by kernel_rfl) (by kernel_rfl) (by kernel_rfl)) ?_
  intro W base args ds gs before hval0 hW hcnd _
  have hW' := hW
  obtain ⟨p, q, hA0, hV, rfl, hfz, hnd⟩ := hW'
  have hA : DataW.TrodAll enc Try.prog W 0 (fun _ => true) true Try.f13.params.toList args.toList ds p := hA0
  obtain ⟨dss, h1, h2⟩ := args_rep (n := 8) (by kernel_rfl) (fun j t v hj hv => hval0 j t v (by simpa using hj) (by simpa using hv)) hA
  have hs : Rows.fnExactInTimeSpec.fn H (ds ++ gs) = { results := [.lit (.bool true)], args := ds, vars := [] } := by
    obtain ⟨rfl, rfl⟩ := trodVars_none hV
    rw [Try.params13] at hA
    obtain ⟨v0, vs0, d0, ds0, p0, q0, _, rfl, _, _, r0⟩ := trodAll_cons hA
    obtain ⟨v1, vs1, d1, ds1, p1, q1, _, rfl, _, _, r1⟩ := trodAll_cons r0
    obtain ⟨v2, vs2, d2, ds2, p2, q2, _, rfl, _, _, r2⟩ := trodAll_cons r1
    obtain ⟨_, rfl, _⟩ := trodAll_nil r2
    rfl
  have hc := law_calls (law dss h1) h2
  rw [Array.toArray_toList] at hc
  refine hc.mono fun e W' ⟨he, hb⟩ => ?_
  subst he
  exact ⟨_, rfl, law_post (by kernel_rfl) (by kernel_rfl) rfl hW hs rfl Try.underlying4 hb⟩

theorem over : Rows.fnExactInTimeRow.holds Try.pinned (OpenSpec.ofChange Rows.fnExactInTimeSpec) :=
  OpenClaim.holds_of_wide 13 Try.f13 rfl rfl rfl rfl rfl rfl rfl ⟨rfl, rfl, rfl, rfl, rfl⟩ rfl rfl rfl rfl rfl (by kernel_rfl) Try.func13 (by kernel_rfl)
    (of_decide_eq_true (by kernel_rfl)) (by unfold Func.isWrapper; first | (rw [if_pos (by decide +kernel)]; kernel_rfl) | (rw [if_neg (by decide +kernel)]; exact ⟨rfl, rfl⟩))
    (fun os started H enc _ => lifted os started H enc)

theorem proved : Rows.FnExactInTimeSaid :=
  over
end Go.Proofs.Ytkfpkemibnmkoaa.fnExactInTime
