/- FnExactReplayTo: the program answers as the statement says, at every argument. -/
import Derived.Test.YtjfpaiencojehaaRows
import Derived.Test.YtjfpaiencojehaaTy
import Derived.Test.YtjfpaiencojehaaAbsTac
import Derived.Test.YtjfpaiencojehaaAbsData
import Derived.Test.YtjfpaiencojehaaMFam
import Derived.Test.YtjfpaiencojehaaMFam2
import Derived.Test.YtjfpaiencojehaaMFam3
import Derived.Test.YtjfpaiencojehaaMReplay
import Derived.WalkKit
import Derived.ProofKit
import Derived.OpenShut
namespace Go.Proofs.Ytjfpaiencojehaa.fnExactReplayTo
open Go.Abs Go.Proofs.Ytjfpaiencojehaa.Ty Go.ChangeShapes Go.WideShapes Go.ChangeAt Go.RowKit Go.Proofs.Ytjfpaiencojehaa.Mod
set_option linter.unusedSimpArgs false
set_option linter.unusedVariables false
set_option maxHeartbeats 8000000
set_option maxRecDepth 100000
theorem c4 (l : List TEv) (hll : l.length ≤ maxLen) (hkl : ∀ y ∈ l, y.lok) (n : Int) : Ctr Try.prog 4 [.one (.dat (.sl 6 (l.map encTEv))), .one (.dat (.int .i64 n))] [] (.one (.dat (.bool true))) [] := by
  refine Ctr.bd mixed Try.func4 rfl ?_
  simp (maxSteps := 2000000) only [go_sem, ↓reduceIte, reduceCtorEq, Nat.reduceAdd, Nat.reduceMul, Nat.reduceSub, Nat.reduceLT, Nat.reduceLeDiff, Nat.reduceEqDiff, Int.reduceToNat, Int.reduceLT, Int.reduceLE, Int.reduceNeg, List.length_map]
  repeat ((with_reducible show _ = true ∧ _); refine ⟨by kernel_rfl, ?_⟩)
  refine CallK_pure e6 (c6 l hll hkl 1048576 (by decide) (by decide)) rfl ?_
  simp (maxSteps := 2000000) only [go_sem, ↓reduceIte, reduceCtorEq, Nat.reduceAdd, Nat.reduceMul, Nat.reduceSub, Nat.reduceLT, Nat.reduceLeDiff, Nat.reduceEqDiff, Int.reduceToNat, Int.reduceLT, Int.reduceLE, Int.reduceNeg, List.length_map]
  repeat ((with_reducible show _ = true ∧ _); refine ⟨by kernel_rfl, ?_⟩)
  refine ⟨fun h => ?_, fun h => ?_⟩
  · refine Fin.nt Try.results4 [] ?_ ?_ ?_ <;> try trivial
  obtain ⟨hsl, hzl, hgl, hhl⟩ := szL_le (by decide) h
  clear h
  repeat ((with_reducible show _ = true ∧ _); refine ⟨by kernel_rfl, ?_⟩)
  have hnl : l.length ≤ 1048576 := by unfold sizTEvS at hsl; omega
  have hokl : ∀ x ∈ l, x.sok := fun x hx => TEv.sok_of (by have := sum_mem sizTEv hx; unfold sizTEvS at hsl; omega)
  have hcnl := cntTEvS_le l
  have hmx : maxLen = 9223372036854775807 := rfl
  have hr := replay_len l n
  first | refine CallK_pure e8 (c8 l hsl) rfl ?_ | refine EffK_pw e8 (c8 l hsl) rfl ?_ | refine EffK_pu e8 (c8 l hsl) rfl ?_
  simp (maxSteps := 2000000) only [go_sem, ↓reduceIte, reduceCtorEq, Nat.reduceAdd, Nat.reduceMul, Nat.reduceSub, Nat.reduceLT, Nat.reduceLeDiff, Nat.reduceEqDiff, Int.reduceToNat, Int.reduceLT, Int.reduceLE, Int.reduceNeg, List.length_map]
  repeat ((with_reducible show _ = true ∧ _); refine ⟨by kernel_rfl, ?_⟩)
  first | refine CallK_pure e15 (c15 l hsl n) rfl ?_ | refine EffK_pw e15 (c15 l hsl n) rfl ?_ | refine EffK_pu e15 (c15 l hsl n) rfl ?_
  simp (maxSteps := 2000000) only [go_sem, ↓reduceIte, reduceCtorEq, Nat.reduceAdd, Nat.reduceMul, Nat.reduceSub, Nat.reduceLT, Nat.reduceLeDiff, Nat.reduceEqDiff, Int.reduceToNat, Int.reduceLT, Int.reduceLE, Int.reduceNeg, List.length_map]
  repeat ((with_reducible show _ = true ∧ _); refine ⟨by kernel_rfl, ?_⟩)
  first | refine CallK_pure e8 (c8 l hsl) rfl ?_ | refine EffK_pw e8 (c8 l hsl) rfl ?_ | refine EffK_pu e8 (c8 l hsl) rfl ?_
  simp (maxSteps := 2000000) only [go_sem, ↓reduceIte, reduceCtorEq, Nat.reduceAdd, Nat.reduceMul, Nat.reduceSub, Nat.reduceLT, Nat.reduceLeDiff, Nat.reduceEqDiff, Int.reduceToNat, Int.reduceLT, Int.reduceLE, Int.reduceNeg, List.length_map]
  repeat ((with_reducible show _ = true ∧ _); refine ⟨by kernel_rfl, ?_⟩)
  first | refine CallK_pure e16 (c16 l hsl n) rfl ?_ | refine EffK_pw e16 (c16 l hsl n) rfl ?_ | refine EffK_pu e16 (c16 l hsl n) rfl ?_
  simp (maxSteps := 2000000) only [go_sem, ↓reduceIte, reduceCtorEq, Nat.reduceAdd, Nat.reduceMul, Nat.reduceSub, Nat.reduceLT, Nat.reduceLeDiff, Nat.reduceEqDiff, Int.reduceToNat, Int.reduceLT, Int.reduceLE, Int.reduceNeg, List.length_map]
  repeat ((with_reducible show _ = true ∧ _); refine ⟨by kernel_rfl, ?_⟩)
  first | refine CallK_pure e10 (c10 (replayM l n).1 (replayM l n).1 (by omega) (by omega)) rfl ?_ | refine EffK_pw e10 (c10 (replayM l n).1 (replayM l n).1 (by omega) (by omega)) rfl ?_ | refine EffK_pu e10 (c10 (replayM l n).1 (replayM l n).1 (by omega) (by omega)) rfl ?_ | refine CCallK_pl e10 (c10 (replayM l n).1 (replayM l n).1 (by omega) (by omega)) rfl rfl ?_ | refine CCallK_pm e10 (c10 (replayM l n).1 (replayM l n).1 (by omega) (by omega)) rfl rfl ?_
  simp (maxSteps := 2000000) only [go_sem, ↓reduceIte, reduceCtorEq, Nat.reduceAdd, Nat.reduceMul, Nat.reduceSub, Nat.reduceLT, Nat.reduceLeDiff, Nat.reduceEqDiff, Int.reduceToNat, Int.reduceLT, Int.reduceLE, Int.reduceNeg, List.length_map]
  repeat ((with_reducible show _ = true ∧ _); refine ⟨by kernel_rfl, ?_⟩)
  first | refine CallK_pure e8 (c8 l hsl) rfl ?_ | refine EffK_pw e8 (c8 l hsl) rfl ?_ | refine EffK_pu e8 (c8 l hsl) rfl ?_
  simp (maxSteps := 2000000) only [go_sem, ↓reduceIte, reduceCtorEq, Nat.reduceAdd, Nat.reduceMul, Nat.reduceSub, Nat.reduceLT, Nat.reduceLeDiff, Nat.reduceEqDiff, Int.reduceToNat, Int.reduceLT, Int.reduceLE, Int.reduceNeg, List.length_map]
  repeat ((with_reducible show _ = true ∧ _); refine ⟨by kernel_rfl, ?_⟩)
  first | refine CallK_pure e11 (c11 l l hsl hsl) rfl ?_ | refine EffK_pw e11 (c11 l l hsl hsl) rfl ?_ | refine EffK_pu e11 (c11 l l hsl hsl) rfl ?_ | refine CCallK_pl e11 (c11 l l hsl hsl) rfl rfl ?_ | refine CCallK_pm e11 (c11 l l hsl hsl) rfl rfl ?_
  simp (maxSteps := 2000000) only [go_sem, ↓reduceIte, reduceCtorEq, Nat.reduceAdd, Nat.reduceMul, Nat.reduceSub, Nat.reduceLT, Nat.reduceLeDiff, Nat.reduceEqDiff, Int.reduceToNat, Int.reduceLT, Int.reduceLE, Int.reduceNeg, List.length_map]
  repeat ((with_reducible show _ = true ∧ _); refine ⟨by kernel_rfl, ?_⟩)
  refine CallK_os [2] e12 (by simp [osOk, St.obj, find]) (c12_v l hnl hokl 1 (by omega) (by omega)) rfl ?_
  simp (maxSteps := 2000000) only [go_sem, ↓reduceIte, reduceCtorEq, Nat.reduceAdd, Nat.reduceMul, Nat.reduceSub, Nat.reduceLT, Nat.reduceLeDiff, Nat.reduceEqDiff, Int.reduceToNat, Int.reduceLT, Int.reduceLE, Int.reduceNeg, List.length_map]
  repeat ((with_reducible show _ = true ∧ _); refine ⟨by kernel_rfl, ?_⟩)
  have hkk : decide ((1 + (cntTEvS l : Int)) < 0) = false := by simp only [decide_eq_false_iff_not]; omega
  simp (maxSteps := 2000000) only [go_sem, ↓reduceIte, reduceCtorEq, Nat.reduceAdd, Nat.reduceMul, Nat.reduceSub, Nat.reduceLT, Nat.reduceLeDiff, Nat.reduceEqDiff, Int.reduceToNat, Int.reduceLT, Int.reduceLE, Int.reduceNeg, List.length_map, hkk]
  repeat ((with_reducible show _ = true ∧ _); refine ⟨by kernel_rfl, ?_⟩)
  first | refine CallK_pure e10 (c10 (replayM l n).1 (replayM l n).1 (by omega) (by omega)) rfl ?_ | refine EffK_pw e10 (c10 (replayM l n).1 (replayM l n).1 (by omega) (by omega)) rfl ?_ | refine EffK_pu e10 (c10 (replayM l n).1 (replayM l n).1 (by omega) (by omega)) rfl ?_ | refine CCallK_pl e10 (c10 (replayM l n).1 (replayM l n).1 (by omega) (by omega)) rfl rfl ?_ | refine CCallK_pm e10 (c10 (replayM l n).1 (replayM l n).1 (by omega) (by omega)) rfl rfl ?_
  simp (maxSteps := 2000000) only [go_sem, ↓reduceIte, reduceCtorEq, Nat.reduceAdd, Nat.reduceMul, Nat.reduceSub, Nat.reduceLT, Nat.reduceLeDiff, Nat.reduceEqDiff, Int.reduceToNat, Int.reduceLT, Int.reduceLE, Int.reduceNeg, List.length_map, hkk]
  repeat ((with_reducible show _ = true ∧ _); refine ⟨by kernel_rfl, ?_⟩)
  refine CallK_os [3] e13 (by simp [osOk, St.obj, find]) (c13 (replayM l n).1 1 (by omega) (by omega)) rfl ?_
  simp (maxSteps := 2000000) only [go_sem, ↓reduceIte, reduceCtorEq, Nat.reduceAdd, Nat.reduceMul, Nat.reduceSub, Nat.reduceLT, Nat.reduceLeDiff, Nat.reduceEqDiff, Int.reduceToNat, Int.reduceLT, Int.reduceLE, Int.reduceNeg, List.length_map, hkk]
  repeat ((with_reducible show _ = true ∧ _); refine ⟨by kernel_rfl, ?_⟩)
  first | refine CallK_pure e14 (c14 ((replayM l n).1).length 1 (by omega) (by omega)) rfl ?_ | refine EffK_pw e14 (c14 ((replayM l n).1).length 1 (by omega) (by omega)) rfl ?_ | refine EffK_pu e14 (c14 ((replayM l n).1).length 1 (by omega) (by omega)) rfl ?_ | refine CCallK_pl e14 (c14 ((replayM l n).1).length 1 (by omega) (by omega)) rfl rfl ?_ | refine CCallK_pm e14 (c14 ((replayM l n).1).length 1 (by omega) (by omega)) rfl rfl ?_
  simp (maxSteps := 2000000) only [go_sem, ↓reduceIte, reduceCtorEq, Nat.reduceAdd, Nat.reduceMul, Nat.reduceSub, Nat.reduceLT, Nat.reduceLeDiff, Nat.reduceEqDiff, Int.reduceToNat, Int.reduceLT, Int.reduceLE, Int.reduceNeg, List.length_map, hkk]
  repeat ((with_reducible show _ = true ∧ _); refine ⟨by kernel_rfl, ?_⟩)
  have hq1 : decide ((1 + 2 * (((replayM l n).1).length : Int)) < 0) = false := by simp only [decide_eq_false_iff_not]; omega
  simp (maxSteps := 2000000) only [go_sem, ↓reduceIte, reduceCtorEq, Nat.reduceAdd, Nat.reduceMul, Nat.reduceSub, Nat.reduceLT, Nat.reduceLeDiff, Nat.reduceEqDiff, Int.reduceToNat, Int.reduceLT, Int.reduceLE, Int.reduceNeg, List.length_map, hkk, hq1]
  repeat ((with_reducible show _ = true ∧ _); refine ⟨by kernel_rfl, ?_⟩)
  first | refine CallK_pure e8 (c8 l hsl) rfl ?_ | refine EffK_pw e8 (c8 l hsl) rfl ?_ | refine EffK_pu e8 (c8 l hsl) rfl ?_
  simp (maxSteps := 2000000) only [go_sem, ↓reduceIte, reduceCtorEq, Nat.reduceAdd, Nat.reduceMul, Nat.reduceSub, Nat.reduceLT, Nat.reduceLeDiff, Nat.reduceEqDiff, Int.reduceToNat, Int.reduceLT, Int.reduceLE, Int.reduceNeg, List.length_map, hkk, hq1]
  repeat ((with_reducible show _ = true ∧ _); refine ⟨by kernel_rfl, ?_⟩)
  first | refine CallK_pure e16 (c16 l hsl n) rfl ?_ | refine EffK_pw e16 (c16 l hsl n) rfl ?_ | refine EffK_pu e16 (c16 l hsl n) rfl ?_
  simp (maxSteps := 2000000) only [go_sem, ↓reduceIte, reduceCtorEq, Nat.reduceAdd, Nat.reduceMul, Nat.reduceSub, Nat.reduceLT, Nat.reduceLeDiff, Nat.reduceEqDiff, Int.reduceToNat, Int.reduceLT, Int.reduceLE, Int.reduceNeg, List.length_map, hkk, hq1]
  repeat ((with_reducible show _ = true ∧ _); refine ⟨by kernel_rfl, ?_⟩)
  first | refine CallK_pure e10 (c10 (replayM l n).1 (replayM l n).1 (by omega) (by omega)) rfl ?_ | refine EffK_pw e10 (c10 (replayM l n).1 (replayM l n).1 (by omega) (by omega)) rfl ?_ | refine EffK_pu e10 (c10 (replayM l n).1 (replayM l n).1 (by omega) (by omega)) rfl ?_ | refine CCallK_pl e10 (c10 (replayM l n).1 (replayM l n).1 (by omega) (by omega)) rfl rfl ?_ | refine CCallK_pm e10 (c10 (replayM l n).1 (replayM l n).1 (by omega) (by omega)) rfl rfl ?_
  simp (maxSteps := 2000000) only [go_sem, ↓reduceIte, reduceCtorEq, Nat.reduceAdd, Nat.reduceMul, Nat.reduceSub, Nat.reduceLT, Nat.reduceLeDiff, Nat.reduceEqDiff, Int.reduceToNat, Int.reduceLT, Int.reduceLE, Int.reduceNeg, List.length_map, hkk, hq1]
  repeat ((with_reducible show _ = true ∧ _); refine ⟨by kernel_rfl, ?_⟩)
  first | refine CallK_pure e14 (c14 ((replayM l n).1).length 1 (by omega) (by omega)) rfl ?_ | refine EffK_pw e14 (c14 ((replayM l n).1).length 1 (by omega) (by omega)) rfl ?_ | refine EffK_pu e14 (c14 ((replayM l n).1).length 1 (by omega) (by omega)) rfl ?_ | refine CCallK_pl e14 (c14 ((replayM l n).1).length 1 (by omega) (by omega)) rfl rfl ?_ | refine CCallK_pm e14 (c14 ((replayM l n).1).length 1 (by omega) (by omega)) rfl rfl ?_
  simp (maxSteps := 2000000) only [go_sem, ↓reduceIte, reduceCtorEq, Nat.reduceAdd, Nat.reduceMul, Nat.reduceSub, Nat.reduceLT, Nat.reduceLeDiff, Nat.reduceEqDiff, Int.reduceToNat, Int.reduceLT, Int.reduceLE, Int.reduceNeg, List.length_map, hkk, hq1]
  repeat ((with_reducible show _ = true ∧ _); refine ⟨by kernel_rfl, ?_⟩)
  refine Fin.nt Try.results4 [] ?_ ?_ ?_ <;> try trivial
theorem law (dss : List (List D)) (h : WTAll Try.prog 8 Try.f4.params.toList dss) : Ctr Try.prog 4 (argAVs Try.prog Try.f4.params.toList dss) [] (.one (.dat (.bool true))) [] := by
  rw [Try.params4] at *
  simp only [WTAll, List.toList_toArray] at h
  obtain ⟨_, _, rfl, h0, ⟨_, _, rfl, h1, rfl⟩⟩ := h
  obtain ⟨x0, rfl, c0, w0⟩ := decSl (enc := encTEv) (q := fun x => x.wf ∧ x.lok) Try.underlying22 tc_84 decTEv h0
  obtain ⟨x1, rfl, w1⟩ := decInt Try.underlying3 h1
  simp only [argAVs, argAV, List.toList_toArray, Try.underlying3, Try.underlying22, List.headD_cons]
  exact c4 x0 c0 (fun y hy => (w0 y hy).2) x1

theorem own : ownKnob Try.prog.godebug = none := by kernel_rfl

set_option maxRecDepth 100000 in
theorem lifted (os : Os) (started : os.Started) (H : Type) (enc : TypeId × Value → H) :
    ReturnsInHanded {} Try.checked os 4 .any (Rows.fnExactReplayToSpec.pre6 enc Try.prog Try.f4 Rows.fnExactReplayToRow.domain false) (Rows.fnExactReplayToSpec.post enc Try.prog Try.f4 false true false false) := by
  refine returnsInHanded_of_change (C := Try.checked) own started (by kernel_rfl) Try.func4
    (ChangeSpec.witness6 (enc := enc) (C := Try.checked) false ⟨#[], #[.slice none 0 0, .int .i64 0], []⟩ 8 (by kernel_rfl) (by kernel_rfl) (by kernel_rfl) (by kernel_rfl)) ?_
  intro W base args ds gs before hval0 hW hcnd _
  have hW' := hW
  obtain ⟨p, q, hA0, hV, rfl, hfz, hnd⟩ := hW'
  have hA : DataW.TrodAll enc Try.prog W 0 (fun _ => true) true Try.f4.params.toList args.toList ds p := hA0
  obtain ⟨dss, h1, h2⟩ := args_rep (n := 8) (by kernel_rfl) (fun j t v hj hv => hval0 j t v (by simpa using hj) (by simpa using hv)) hA
  have hs : Rows.fnExactReplayToSpec.fn H (ds ++ gs) = { results := [.lit (.bool true)], args := ds, vars := [] } := by
    obtain ⟨rfl, rfl⟩ := trodVars_none hV
    rw [Try.params4] at hA
    obtain ⟨v0, vs0, d0, ds0, p0, q0, _, rfl, _, _, r0⟩ := trodAll_cons hA
    obtain ⟨v1, vs1, d1, ds1, p1, q1, _, rfl, _, _, r1⟩ := trodAll_cons r0
    obtain ⟨_, rfl, _⟩ := trodAll_nil r1
    rfl
  have hc := law_calls (law dss h1) h2
  rw [Array.toArray_toList] at hc
  refine hc.mono fun e W' ⟨he, hb⟩ => ?_
  subst he
  exact ⟨_, rfl, law_post (by kernel_rfl) (by kernel_rfl) rfl hW hs rfl Try.underlying4 hb⟩

theorem over : Rows.fnExactReplayToRow.holds Try.pinned (OpenSpec.ofChange Rows.fnExactReplayToSpec) :=
  OpenClaim.holds_of_wide 4 Try.f4 rfl rfl rfl rfl rfl rfl rfl ⟨rfl, rfl, rfl, rfl, rfl⟩ rfl rfl rfl rfl rfl (by kernel_rfl) Try.func4 (by kernel_rfl)
    (of_decide_eq_true (by kernel_rfl)) (by unfold Func.isWrapper; first | (rw [if_pos (by decide +kernel)]; kernel_rfl) | (rw [if_neg (by decide +kernel)]; exact ⟨rfl, rfl⟩))
    (fun os started H enc _ => lifted os started H enc)

theorem proved : Rows.FnExactReplayToSaid :=
  over
end Go.Proofs.Ytjfpaiencojehaa.fnExactReplayTo
