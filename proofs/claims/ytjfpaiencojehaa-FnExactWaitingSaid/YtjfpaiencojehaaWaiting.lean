/- FnExactWaiting: the program answers as the statement says, at every argument. -/
import Derived.Test.YtjfpaiencojehaaRows
import Derived.Test.YtjfpaiencojehaaTy
import Derived.Test.YtjfpaiencojehaaAbsTac
import Derived.Test.YtjfpaiencojehaaAbsData
import Derived.Test.YtjfpaiencojehaaMFam2
import Derived.Test.YtjfpaiencojehaaMFam3
import Derived.Test.YtjfpaiencojehaaMIdle
import Derived.WalkKit
import Derived.ProofKit
import Derived.OpenShut
namespace Go.Proofs.Ytjfpaiencojehaa.fnExactWaiting
open Go.Abs Go.Proofs.Ytjfpaiencojehaa.Ty Go.ChangeShapes Go.WideShapes Go.ChangeAt Go.RowKit Go.Proofs.Ytjfpaiencojehaa.Mod
set_option linter.unusedSimpArgs false
set_option linter.unusedVariables false
set_option maxHeartbeats 8000000
set_option maxRecDepth 100000
theorem c5 (s : Shelf) (hks : s.lok) : Ctr Try.prog 5 [.agg ((encShelf s).map .dat)] [] (.one (.dat (.bool true))) [] := by
  simp only [encShelf, List.map_cons, List.map_nil]
  refine Ctr.bd mixed Try.func5 rfl ?_
  simp (maxSteps := 2000000) only [go_sem, ↓reduceIte, reduceCtorEq, Nat.reduceAdd, Nat.reduceMul, Nat.reduceSub, Nat.reduceLT, Nat.reduceLeDiff, Nat.reduceEqDiff, Int.reduceToNat, Int.reduceLT, Int.reduceLE, Int.reduceNeg, List.length_map]
  repeat ((with_reducible show _ = true ∧ _); refine ⟨by kernel_rfl, ?_⟩)
  refine CallK_pure e17 (c17 s hks 1048576 (by decide) (by decide)) rfl ?_
  simp (maxSteps := 2000000) only [go_sem, ↓reduceIte, reduceCtorEq, Nat.reduceAdd, Nat.reduceMul, Nat.reduceSub, Nat.reduceLT, Nat.reduceLeDiff, Nat.reduceEqDiff, Int.reduceToNat, Int.reduceLT, Int.reduceLE, Int.reduceNeg, List.length_map]
  repeat ((with_reducible show _ = true ∧ _); refine ⟨by kernel_rfl, ?_⟩)
  refine ⟨fun h => ?_, fun h => ?_⟩
  · refine Fin.nt Try.results5 [] ?_ ?_ ?_ <;> try trivial
  obtain ⟨hss, hzs, hgs, hhs⟩ := szL_le (by decide) h
  clear h
  repeat ((with_reducible show _ = true ∧ _); refine ⟨by kernel_rfl, ?_⟩)
  have hoks := Shelf.sok_of hss
  have hcns := mcShelf_le s
  have hmx : maxLen = 9223372036854775807 := rfl
  have hr := waiting_len hss
  first | refine CallK_pure e19 (c19 s hss) rfl ?_ | refine EffK_pw e19 (c19 s hss) rfl ?_ | refine EffK_pu e19 (c19 s hss) rfl ?_
  simp (maxSteps := 2000000) only [go_sem, ↓reduceIte, reduceCtorEq, Nat.reduceAdd, Nat.reduceMul, Nat.reduceSub, Nat.reduceLT, Nat.reduceLeDiff, Nat.reduceEqDiff, Int.reduceToNat, Int.reduceLT, Int.reduceLE, Int.reduceNeg, List.length_map]
  repeat ((with_reducible show _ = true ∧ _); refine ⟨by kernel_rfl, ?_⟩)
  first | refine CallK_pure e18 (c18 s hss) rfl ?_ | refine EffK_pw e18 (c18 s hss) rfl ?_ | refine EffK_pu e18 (c18 s hss) rfl ?_
  simp (maxSteps := 2000000) only [go_sem, ↓reduceIte, reduceCtorEq, Nat.reduceAdd, Nat.reduceMul, Nat.reduceSub, Nat.reduceLT, Nat.reduceLeDiff, Nat.reduceEqDiff, Int.reduceToNat, Int.reduceLT, Int.reduceLE, Int.reduceNeg, List.length_map]
  repeat ((with_reducible show _ = true ∧ _); refine ⟨by kernel_rfl, ?_⟩)
  first | refine CallK_pure e19 (c19 s hss) rfl ?_ | refine EffK_pw e19 (c19 s hss) rfl ?_ | refine EffK_pu e19 (c19 s hss) rfl ?_
  simp (maxSteps := 2000000) only [go_sem, ↓reduceIte, reduceCtorEq, Nat.reduceAdd, Nat.reduceMul, Nat.reduceSub, Nat.reduceLT, Nat.reduceLeDiff, Nat.reduceEqDiff, Int.reduceToNat, Int.reduceLT, Int.reduceLE, Int.reduceNeg, List.length_map]
  repeat ((with_reducible show _ = true ∧ _); refine ⟨by kernel_rfl, ?_⟩)
  first | refine CallK_pure e20 (c20 s hss) rfl ?_ | refine EffK_pw e20 (c20 s hss) rfl ?_ | refine EffK_pu e20 (c20 s hss) rfl ?_
  simp (maxSteps := 2000000) only [go_sem, ↓reduceIte, reduceCtorEq, Nat.reduceAdd, Nat.reduceMul, Nat.reduceSub, Nat.reduceLT, Nat.reduceLeDiff, Nat.reduceEqDiff, Int.reduceToNat, Int.reduceLT, Int.reduceLE, Int.reduceNeg, List.length_map]
  repeat ((with_reducible show _ = true ∧ _); refine ⟨by kernel_rfl, ?_⟩)
  first | refine CallK_pure e21 (c21 (waitingM s) (waitingM s) (by omega) (by omega)) rfl ?_ | refine EffK_pw e21 (c21 (waitingM s) (waitingM s) (by omega) (by omega)) rfl ?_ | refine EffK_pu e21 (c21 (waitingM s) (waitingM s) (by omega) (by omega)) rfl ?_ | refine CCallK_pl e21 (c21 (waitingM s) (waitingM s) (by omega) (by omega)) rfl rfl ?_ | refine CCallK_pm e21 (c21 (waitingM s) (waitingM s) (by omega) (by omega)) rfl rfl ?_
  simp (maxSteps := 2000000) only [go_sem, ↓reduceIte, reduceCtorEq, Nat.reduceAdd, Nat.reduceMul, Nat.reduceSub, Nat.reduceLT, Nat.reduceLeDiff, Nat.reduceEqDiff, Int.reduceToNat, Int.reduceLT, Int.reduceLE, Int.reduceNeg, List.length_map]
  repeat ((with_reducible show _ = true ∧ _); refine ⟨by kernel_rfl, ?_⟩)
  first | refine CallK_pure e19 (c19 s hss) rfl ?_ | refine EffK_pw e19 (c19 s hss) rfl ?_ | refine EffK_pu e19 (c19 s hss) rfl ?_
  simp (maxSteps := 2000000) only [go_sem, ↓reduceIte, reduceCtorEq, Nat.reduceAdd, Nat.reduceMul, Nat.reduceSub, Nat.reduceLT, Nat.reduceLeDiff, Nat.reduceEqDiff, Int.reduceToNat, Int.reduceLT, Int.reduceLE, Int.reduceNeg, List.length_map]
  repeat ((with_reducible show _ = true ∧ _); refine ⟨by kernel_rfl, ?_⟩)
  first | refine CallK_pure e22 (c22 s s hss hss) rfl ?_ | refine EffK_pw e22 (c22 s s hss hss) rfl ?_ | refine EffK_pu e22 (c22 s s hss hss) rfl ?_ | refine CCallK_pl e22 (c22 s s hss hss) rfl rfl ?_ | refine CCallK_pm e22 (c22 s s hss hss) rfl rfl ?_
  simp (maxSteps := 2000000) only [go_sem, ↓reduceIte, reduceCtorEq, Nat.reduceAdd, Nat.reduceMul, Nat.reduceSub, Nat.reduceLT, Nat.reduceLeDiff, Nat.reduceEqDiff, Int.reduceToNat, Int.reduceLT, Int.reduceLE, Int.reduceNeg, List.length_map]
  repeat ((with_reducible show _ = true ∧ _); refine ⟨by kernel_rfl, ?_⟩)
  refine CallK_os [13, 14, 15, 16, 17, 18, 19, 20, 21, 22, 23] e23 (by simp [osOk, St.obj, find]) (c23 s hoks 1 (by omega) (by omega)) rfl ?_
  simp (maxSteps := 2000000) only [go_sem, ↓reduceIte, reduceCtorEq, Nat.reduceAdd, Nat.reduceMul, Nat.reduceSub, Nat.reduceLT, Nat.reduceLeDiff, Nat.reduceEqDiff, Int.reduceToNat, Int.reduceLT, Int.reduceLE, Int.reduceNeg, List.length_map]
  repeat ((with_reducible show _ = true ∧ _); refine ⟨by kernel_rfl, ?_⟩)
  have hkk : decide ((1 + (mcShelf s : Int)) < 0) = false := by simp only [decide_eq_false_iff_not]; omega
  simp (maxSteps := 2000000) only [go_sem, ↓reduceIte, reduceCtorEq, Nat.reduceAdd, Nat.reduceMul, Nat.reduceSub, Nat.reduceLT, Nat.reduceLeDiff, Nat.reduceEqDiff, Int.reduceToNat, Int.reduceLT, Int.reduceLE, Int.reduceNeg, List.length_map, hkk]
  repeat ((with_reducible show _ = true ∧ _); refine ⟨by kernel_rfl, ?_⟩)
  first | refine CallK_pure e21 (c21 (waitingM s) (waitingM s) (by omega) (by omega)) rfl ?_ | refine EffK_pw e21 (c21 (waitingM s) (waitingM s) (by omega) (by omega)) rfl ?_ | refine EffK_pu e21 (c21 (waitingM s) (waitingM s) (by omega) (by omega)) rfl ?_ | refine CCallK_pl e21 (c21 (waitingM s) (waitingM s) (by omega) (by omega)) rfl rfl ?_ | refine CCallK_pm e21 (c21 (waitingM s) (waitingM s) (by omega) (by omega)) rfl rfl ?_
  simp (maxSteps := 2000000) only [go_sem, ↓reduceIte, reduceCtorEq, Nat.reduceAdd, Nat.reduceMul, Nat.reduceSub, Nat.reduceLT, Nat.reduceLeDiff, Nat.reduceEqDiff, Int.reduceToNat, Int.reduceLT, Int.reduceLE, Int.reduceNeg, List.length_map, hkk]
  repeat ((with_reducible show _ = true ∧ _); refine ⟨by kernel_rfl, ?_⟩)
  refine CallK_os [25] e24 (by simp [osOk, St.obj, find]) (c24 (waitingM s) 1 (by omega) (by omega)) rfl ?_
  simp (maxSteps := 2000000) only [go_sem, ↓reduceIte, reduceCtorEq, Nat.reduceAdd, Nat.reduceMul, Nat.reduceSub, Nat.reduceLT, Nat.reduceLeDiff, Nat.reduceEqDiff, Int.reduceToNat, Int.reduceLT, Int.reduceLE, Int.reduceNeg, List.length_map, hkk]
  repeat ((with_reducible show _ = true ∧ _); refine ⟨by kernel_rfl, ?_⟩)
  first | refine CallK_pure e25 (c25 ((waitingM s)).length 1 (by omega) (by omega)) rfl ?_ | refine EffK_pw e25 (c25 ((waitingM s)).length 1 (by omega) (by omega)) rfl ?_ | refine EffK_pu e25 (c25 ((waitingM s)).length 1 (by omega) (by omega)) rfl ?_ | refine CCallK_pl e25 (c25 ((waitingM s)).length 1 (by omega) (by omega)) rfl rfl ?_ | refine CCallK_pm e25 (c25 ((waitingM s)).length 1 (by omega) (by omega)) rfl rfl ?_
  simp (maxSteps := 2000000) only [go_sem, ↓reduceIte, reduceCtorEq, Nat.reduceAdd, Nat.reduceMul, Nat.reduceSub, Nat.reduceLT, Nat.reduceLeDiff, Nat.reduceEqDiff, Int.reduceToNat, Int.reduceLT, Int.reduceLE, Int.reduceNeg, List.length_map, hkk]
  repeat ((with_reducible show _ = true ∧ _); refine ⟨by kernel_rfl, ?_⟩)
  have hq1 : decide ((1 + 1 * (((waitingM s)).length : Int)) < 0) = false := by simp only [decide_eq_false_iff_not]; omega
  simp (maxSteps := 2000000) only [go_sem, ↓reduceIte, reduceCtorEq, Nat.reduceAdd, Nat.reduceMul, Nat.reduceSub, Nat.reduceLT, Nat.reduceLeDiff, Nat.reduceEqDiff, Int.reduceToNat, Int.reduceLT, Int.reduceLE, Int.reduceNeg, List.length_map, hkk, hq1]
  repeat ((with_reducible show _ = true ∧ _); refine ⟨by kernel_rfl, ?_⟩)
  first | refine CallK_pure e19 (c19 s hss) rfl ?_ | refine EffK_pw e19 (c19 s hss) rfl ?_ | refine EffK_pu e19 (c19 s hss) rfl ?_
  simp (maxSteps := 2000000) only [go_sem, ↓reduceIte, reduceCtorEq, Nat.reduceAdd, Nat.reduceMul, Nat.reduceSub, Nat.reduceLT, Nat.reduceLeDiff, Nat.reduceEqDiff, Int.reduceToNat, Int.reduceLT, Int.reduceLE, Int.reduceNeg, List.length_map, hkk, hq1]
  repeat ((with_reducible show _ = true ∧ _); refine ⟨by kernel_rfl, ?_⟩)
  first | refine CallK_pure e20 (c20 s hss) rfl ?_ | refine EffK_pw e20 (c20 s hss) rfl ?_ | refine EffK_pu e20 (c20 s hss) rfl ?_
  simp (maxSteps := 2000000) only [go_sem, ↓reduceIte, reduceCtorEq, Nat.reduceAdd, Nat.reduceMul, Nat.reduceSub, Nat.reduceLT, Nat.reduceLeDiff, Nat.reduceEqDiff, Int.reduceToNat, Int.reduceLT, Int.reduceLE, Int.reduceNeg, List.length_map, hkk, hq1]
  repeat ((with_reducible show _ = true ∧ _); refine ⟨by kernel_rfl, ?_⟩)
  first | refine CallK_pure e21 (c21 (waitingM s) (waitingM s) (by omega) (by omega)) rfl ?_ | refine EffK_pw e21 (c21 (waitingM s) (waitingM s) (by omega) (by omega)) rfl ?_ | refine EffK_pu e21 (c21 (waitingM s) (waitingM s) (by omega) (by omega)) rfl ?_ | refine CCallK_pl e21 (c21 (waitingM s) (waitingM s) (by omega) (by omega)) rfl rfl ?_ | refine CCallK_pm e21 (c21 (waitingM s) (waitingM s) (by omega) (by omega)) rfl rfl ?_
  simp (maxSteps := 2000000) only [go_sem, ↓reduceIte, reduceCtorEq, Nat.reduceAdd, Nat.reduceMul, Nat.reduceSub, Nat.reduceLT, Nat.reduceLeDiff, Nat.reduceEqDiff, Int.reduceToNat, Int.reduceLT, Int.reduceLE, Int.reduceNeg, List.length_map, hkk, hq1]
  repeat ((with_reducible show _ = true ∧ _); refine ⟨by kernel_rfl, ?_⟩)
  first | refine CallK_pure e25 (c25 ((waitingM s)).length 1 (by omega) (by omega)) rfl ?_ | refine EffK_pw e25 (c25 ((waitingM s)).length 1 (by omega) (by omega)) rfl ?_ | refine EffK_pu e25 (c25 ((waitingM s)).length 1 (by omega) (by omega)) rfl ?_ | refine CCallK_pl e25 (c25 ((waitingM s)).length 1 (by omega) (by omega)) rfl rfl ?_ | refine CCallK_pm e25 (c25 ((waitingM s)).length 1 (by omega) (by omega)) rfl rfl ?_
  simp (maxSteps := 2000000) only [go_sem, ↓reduceIte, reduceCtorEq, Nat.reduceAdd, Nat.reduceMul, Nat.reduceSub, Nat.reduceLT, Nat.reduceLeDiff, Nat.reduceEqDiff, Int.reduceToNat, Int.reduceLT, Int.reduceLE, Int.reduceNeg, List.length_map, hkk, hq1]
  repeat ((with_reducible show _ = true ∧ _); refine ⟨by kernel_rfl, ?_⟩)
  refine Fin.nt Try.results5 [] ?_ ?_ ?_ <;> try trivial
theorem law (dss : List (List D)) (h : WTAll Try.prog 8 Try.f5.params.toList dss) : Ctr Try.prog 5 (argAVs Try.prog Try.f5.params.toList dss) [] (.one (.dat (.bool true))) [] := by
  rw [Try.params5] at *
  simp only [WTAll, List.toList_toArray] at h
  obtain ⟨_, _, rfl, h0, rfl⟩ := h
  obtain ⟨x0, rfl, w0, k0⟩ := decShelf _ _ h0
  simp only [argAVs, argAV, List.toList_toArray, Try.underlying54, List.headD_cons]
  exact c5 x0 k0

theorem own : ownKnob Try.prog.godebug = none := by kernel_rfl

set_option maxRecDepth 100000 in
theorem lifted (os : Os) (started : os.Started) (H : Type) (enc : TypeId × Value → H) :
    ReturnsInHanded {} Try.checked os 5 .any (Rows.fnExactWaitingSpec.pre6 enc Try.prog Try.f5 Rows.fnExactWaitingRow.domain false) (Rows.fnExactWaitingSpec.post enc Try.prog Try.f5 false true false false) := by
  refine returnsInHanded_of_change (C := Try.checked) own started (by kernel_rfl) Try.func5
    (ChangeSpec.witness6 (enc := enc) (C := Try.checked) false ⟨#[], #[.agg #[.slice none 0 0, .slice none 0 0, .slice none 0 0, .slice none 0 0, .int .i64 0, .slice none 0 0, .slice none 0 0, .slice none 0 0, .slice none 0 0, .slice none 0 0, .slice none 0 0, .slice none 0 0, .int .i64 0]], []⟩ 8 (by kernel_rfl) (by kernel_rfl) (by kernel_rfl) (by kernel_rfl)) ?_
  intro W base args ds gs before hval0 hW hcnd _
  have hW' := hW
  obtain ⟨p, q, hA0, hV, rfl, hfz, hnd⟩ := hW'
  have hA : DataW.TrodAll enc Try.prog W 0 (fun _ => true) true Try.f5.params.toList args.toList ds p := hA0
  obtain ⟨dss, h1, h2⟩ := args_rep (n := 8) (by kernel_rfl) (fun j t v hj hv => hval0 j t v (by simpa using hj) (by simpa using hv)) hA
  have hs : Rows.fnExactWaitingSpec.fn H (ds ++ gs) = { results := [.lit (.bool true)], args := ds, vars := [] } := by
    obtain ⟨rfl, rfl⟩ := trodVars_none hV
    rw [Try.params5] at hA
    obtain ⟨v0, vs0, d0, ds0, p0, q0, _, rfl, _, _, r0⟩ := trodAll_cons hA
    obtain ⟨_, rfl, _⟩ := trodAll_nil r0
    rfl
  have hc := law_calls (law dss h1) h2
  rw [Array.toArray_toList] at hc
  refine hc.mono fun e W' ⟨he, hb⟩ => ?_
  subst he
  exact ⟨_, rfl, law_post (by kernel_rfl) (by kernel_rfl) rfl hW hs rfl Try.underlying4 hb⟩

theorem over : Rows.fnExactWaitingRow.holds Try.pinned (OpenSpec.ofChange Rows.fnExactWaitingSpec) :=
  OpenClaim.holds_of_wide 5 Try.f5 rfl rfl rfl rfl rfl rfl rfl ⟨rfl, rfl, rfl, rfl, rfl⟩ rfl rfl rfl rfl rfl (by kernel_rfl) Try.func5 (by kernel_rfl)
    (of_decide_eq_true (by kernel_rfl)) (by unfold Func.isWrapper; first | (rw [if_pos (by decide +kernel)]; kernel_rfl) | (rw [if_neg (by decide +kernel)]; exact ⟨rfl, rfl⟩))
    (fun os started H enc _ => lifted os started H enc)

theorem proved : Rows.FnExactWaitingSaid :=
  over
end Go.Proofs.Ytjfpaiencojehaa.fnExactWaiting
