/- FnExactPairsOf: the program answers as the statement says, at every argument. -/
import Derived.Test.YtacmmahhlognnaaGreatRows
import Derived.Test.YtacmmahhlognnaaGreatTy
import Derived.Test.YtacmmahhlognnaaGreatAbsTac
import Derived.Test.YtacmmahhlognnaaGreatAbsData
import Derived.Test.YtacmmahhlognnaaGreatMFam
import Derived.Test.YtacmmahhlognnaaGreatMFam2
import Derived.Test.YtacmmahhlognnaaGreatMFam3
import Derived.Test.YtacmmahhlognnaaGreatMChain
import Derived.WalkKit
import Derived.ProofKit
import Derived.OpenShut
namespace Go.Proofs.YtacmmahhlognnaaGreat.fnExactPairsOf
open Go.Abs Go.Proofs.YtacmmahhlognnaaGreat.Ty Go.ChangeShapes Go.WideShapes Go.ChangeAt Go.RowKit Go.Proofs.YtacmmahhlognnaaGreat.Mod
set_option linter.unusedSimpArgs false
set_option linter.unusedVariables false
set_option maxHeartbeats 8000000
set_option maxRecDepth 100000
theorem c4 (m : Mem) (hkm : m.lok) (h : Int) : Ctr Tryz.prog 4 [.agg ((encMem m).map .dat), .one (.dat (.int .i64 h))] [] (.one (.dat (.bool true))) [] := by
  simp only [encMem, List.map_cons, List.map_nil]
  refine Ctr.bd mixed Tryz.func4 rfl ?_
  simp (maxSteps := 2000000) only [go_sem, ↓reduceIte, reduceCtorEq, Nat.reduceAdd, Nat.reduceMul, Nat.reduceSub, Nat.reduceLT, Nat.reduceLeDiff, Nat.reduceEqDiff, Int.reduceToNat, Int.reduceLT, Int.reduceLE, Int.reduceNeg, List.length_map]
  repeat ((with_reducible show _ = true ∧ _); refine ⟨by kernel_rfl, ?_⟩)
  refine CallK_pure e9 (c9 m hkm 1048576 (by decide) (by decide)) rfl ?_
  simp (maxSteps := 2000000) only [go_sem, ↓reduceIte, reduceCtorEq, Nat.reduceAdd, Nat.reduceMul, Nat.reduceSub, Nat.reduceLT, Nat.reduceLeDiff, Nat.reduceEqDiff, Int.reduceToNat, Int.reduceLT, Int.reduceLE, Int.reduceNeg, List.length_map]
  repeat ((with_reducible show _ = true ∧ _); refine ⟨by kernel_rfl, ?_⟩)
  refine ⟨fun h => ?_, fun h => ?_⟩
  · refine Fin.nt Tryz.results4 [] ?_ ?_ ?_ <;> try trivial
  obtain ⟨hsm, hzm, hgm, hhm⟩ := szL_le (by decide) h
  clear h
  repeat ((with_reducible show _ = true ∧ _); refine ⟨by kernel_rfl, ?_⟩)
  have hokm := Mem.sok_of hsm
  have hcnm := mcMem_le m
  have hmx : maxLen = 9223372036854775807 := rfl
  have hr := pairs_len m h
  first | refine CallK_pure e11 (c11 m hsm) rfl ?_ | refine EffK_pw e11 (c11 m hsm) rfl ?_ | refine EffK_pu e11 (c11 m hsm) rfl ?_
  simp (maxSteps := 2000000) only [go_sem, ↓reduceIte, reduceCtorEq, Nat.reduceAdd, Nat.reduceMul, Nat.reduceSub, Nat.reduceLT, Nat.reduceLeDiff, Nat.reduceEqDiff, Int.reduceToNat, Int.reduceLT, Int.reduceLE, Int.reduceNeg, List.length_map]
  repeat ((with_reducible show _ = true ∧ _); refine ⟨by kernel_rfl, ?_⟩)
  first | refine CallK_pure e18 (c18 m hsm h) rfl ?_ | refine EffK_pw e18 (c18 m hsm h) rfl ?_ | refine EffK_pu e18 (c18 m hsm h) rfl ?_
  simp (maxSteps := 2000000) only [go_sem, ↓reduceIte, reduceCtorEq, Nat.reduceAdd, Nat.reduceMul, Nat.reduceSub, Nat.reduceLT, Nat.reduceLeDiff, Nat.reduceEqDiff, Int.reduceToNat, Int.reduceLT, Int.reduceLE, Int.reduceNeg, List.length_map]
  repeat ((with_reducible show _ = true ∧ _); refine ⟨by kernel_rfl, ?_⟩)
  first | refine CallK_pure e11 (c11 m hsm) rfl ?_ | refine EffK_pw e11 (c11 m hsm) rfl ?_ | refine EffK_pu e11 (c11 m hsm) rfl ?_
  simp (maxSteps := 2000000) only [go_sem, ↓reduceIte, reduceCtorEq, Nat.reduceAdd, Nat.reduceMul, Nat.reduceSub, Nat.reduceLT, Nat.reduceLeDiff, Nat.reduceEqDiff, Int.reduceToNat, Int.reduceLT, Int.reduceLE, Int.reduceNeg, List.length_map]
  repeat ((with_reducible show _ = true ∧ _); refine ⟨by kernel_rfl, ?_⟩)
  first | refine CallK_pure e19 (c19 m hsm h) rfl ?_ | refine EffK_pw e19 (c19 m hsm h) rfl ?_ | refine EffK_pu e19 (c19 m hsm h) rfl ?_
  simp (maxSteps := 2000000) only [go_sem, ↓reduceIte, reduceCtorEq, Nat.reduceAdd, Nat.reduceMul, Nat.reduceSub, Nat.reduceLT, Nat.reduceLeDiff, Nat.reduceEqDiff, Int.reduceToNat, Int.reduceLT, Int.reduceLE, Int.reduceNeg, List.length_map]
  repeat ((with_reducible show _ = true ∧ _); refine ⟨by kernel_rfl, ?_⟩)
  first | refine CallK_pure e20 (c20 (pairsM m h) (pairsM m h) (by omega) (by omega)) rfl ?_ | refine EffK_pw e20 (c20 (pairsM m h) (pairsM m h) (by omega) (by omega)) rfl ?_ | refine EffK_pu e20 (c20 (pairsM m h) (pairsM m h) (by omega) (by omega)) rfl ?_ | refine CCallK_pl e20 (c20 (pairsM m h) (pairsM m h) (by omega) (by omega)) rfl rfl ?_ | refine CCallK_pm e20 (c20 (pairsM m h) (pairsM m h) (by omega) (by omega)) rfl rfl ?_
  simp (maxSteps := 2000000) only [go_sem, ↓reduceIte, reduceCtorEq, Nat.reduceAdd, Nat.reduceMul, Nat.reduceSub, Nat.reduceLT, Nat.reduceLeDiff, Nat.reduceEqDiff, Int.reduceToNat, Int.reduceLT, Int.reduceLE, Int.reduceNeg, List.length_map]
  repeat ((with_reducible show _ = true ∧ _); refine ⟨by kernel_rfl, ?_⟩)
  first | refine CallK_pure e11 (c11 m hsm) rfl ?_ | refine EffK_pw e11 (c11 m hsm) rfl ?_ | refine EffK_pu e11 (c11 m hsm) rfl ?_
  simp (maxSteps := 2000000) only [go_sem, ↓reduceIte, reduceCtorEq, Nat.reduceAdd, Nat.reduceMul, Nat.reduceSub, Nat.reduceLT, Nat.reduceLeDiff, Nat.reduceEqDiff, Int.reduceToNat, Int.reduceLT, Int.reduceLE, Int.reduceNeg, List.length_map]
  repeat ((with_reducible show _ = true ∧ _); refine ⟨by kernel_rfl, ?_⟩)
  first | refine CallK_pure e14 (c14 m m hsm hsm) rfl ?_ | refine EffK_pw e14 (c14 m m hsm hsm) rfl ?_ | refine EffK_pu e14 (c14 m m hsm hsm) rfl ?_ | refine CCallK_pl e14 (c14 m m hsm hsm) rfl rfl ?_ | refine CCallK_pm e14 (c14 m m hsm hsm) rfl rfl ?_
  simp (maxSteps := 2000000) only [go_sem, ↓reduceIte, reduceCtorEq, Nat.reduceAdd, Nat.reduceMul, Nat.reduceSub, Nat.reduceLT, Nat.reduceLeDiff, Nat.reduceEqDiff, Int.reduceToNat, Int.reduceLT, Int.reduceLE, Int.reduceNeg, List.length_map]
  repeat ((with_reducible show _ = true ∧ _); refine ⟨by kernel_rfl, ?_⟩)
  refine CallK_os [6, 7, 8, 9] e15 (by simp [osOk, St.obj, find]) (c15 m hokm 1 (by omega) (by omega)) rfl ?_
  simp (maxSteps := 2000000) only [go_sem, ↓reduceIte, reduceCtorEq, Nat.reduceAdd, Nat.reduceMul, Nat.reduceSub, Nat.reduceLT, Nat.reduceLeDiff, Nat.reduceEqDiff, Int.reduceToNat, Int.reduceLT, Int.reduceLE, Int.reduceNeg, List.length_map]
  repeat ((with_reducible show _ = true ∧ _); refine ⟨by kernel_rfl, ?_⟩)
  have hkk : decide ((1 + (mcMem m : Int)) < 0) = false := by simp only [decide_eq_false_iff_not]; omega
  simp (maxSteps := 2000000) only [go_sem, ↓reduceIte, reduceCtorEq, Nat.reduceAdd, Nat.reduceMul, Nat.reduceSub, Nat.reduceLT, Nat.reduceLeDiff, Nat.reduceEqDiff, Int.reduceToNat, Int.reduceLT, Int.reduceLE, Int.reduceNeg, List.length_map, hkk]
  repeat ((with_reducible show _ = true ∧ _); refine ⟨by kernel_rfl, ?_⟩)
  first | refine CallK_pure e20 (c20 (pairsM m h) (pairsM m h) (by omega) (by omega)) rfl ?_ | refine EffK_pw e20 (c20 (pairsM m h) (pairsM m h) (by omega) (by omega)) rfl ?_ | refine EffK_pu e20 (c20 (pairsM m h) (pairsM m h) (by omega) (by omega)) rfl ?_ | refine CCallK_pl e20 (c20 (pairsM m h) (pairsM m h) (by omega) (by omega)) rfl rfl ?_ | refine CCallK_pm e20 (c20 (pairsM m h) (pairsM m h) (by omega) (by omega)) rfl rfl ?_
  simp (maxSteps := 2000000) only [go_sem, ↓reduceIte, reduceCtorEq, Nat.reduceAdd, Nat.reduceMul, Nat.reduceSub, Nat.reduceLT, Nat.reduceLeDiff, Nat.reduceEqDiff, Int.reduceToNat, Int.reduceLT, Int.reduceLE, Int.reduceNeg, List.length_map, hkk]
  repeat ((with_reducible show _ = true ∧ _); refine ⟨by kernel_rfl, ?_⟩)
  refine CallK_os [11] e21 (by simp [osOk, St.obj, find]) (c21 (pairsM m h) 1 (by omega) (by omega)) rfl ?_
  simp (maxSteps := 2000000) only [go_sem, ↓reduceIte, reduceCtorEq, Nat.reduceAdd, Nat.reduceMul, Nat.reduceSub, Nat.reduceLT, Nat.reduceLeDiff, Nat.reduceEqDiff, Int.reduceToNat, Int.reduceLT, Int.reduceLE, Int.reduceNeg, List.length_map, hkk]
  repeat ((with_reducible show _ = true ∧ _); refine ⟨by kernel_rfl, ?_⟩)
  first | refine CallK_pure e22 (c22 ((pairsM m h)).length 1 (by omega) (by omega)) rfl ?_ | refine EffK_pw e22 (c22 ((pairsM m h)).length 1 (by omega) (by omega)) rfl ?_ | refine EffK_pu e22 (c22 ((pairsM m h)).length 1 (by omega) (by omega)) rfl ?_ | refine CCallK_pl e22 (c22 ((pairsM m h)).length 1 (by omega) (by omega)) rfl rfl ?_ | refine CCallK_pm e22 (c22 ((pairsM m h)).length 1 (by omega) (by omega)) rfl rfl ?_
  simp (maxSteps := 2000000) only [go_sem, ↓reduceIte, reduceCtorEq, Nat.reduceAdd, Nat.reduceMul, Nat.reduceSub, Nat.reduceLT, Nat.reduceLeDiff, Nat.reduceEqDiff, Int.reduceToNat, Int.reduceLT, Int.reduceLE, Int.reduceNeg, List.length_map, hkk]
  repeat ((with_reducible show _ = true ∧ _); refine ⟨by kernel_rfl, ?_⟩)
  have hq1 : decide ((1 + 2 * (((pairsM m h)).length : Int)) < 0) = false := by simp only [decide_eq_false_iff_not]; omega
  simp (maxSteps := 2000000) only [go_sem, ↓reduceIte, reduceCtorEq, Nat.reduceAdd, Nat.reduceMul, Nat.reduceSub, Nat.reduceLT, Nat.reduceLeDiff, Nat.reduceEqDiff, Int.reduceToNat, Int.reduceLT, Int.reduceLE, Int.reduceNeg, List.length_map, hkk, hq1]
  repeat ((with_reducible show _ = true ∧ _); refine ⟨by kernel_rfl, ?_⟩)
  first | refine CallK_pure e11 (c11 m hsm) rfl ?_ | refine EffK_pw e11 (c11 m hsm) rfl ?_ | refine EffK_pu e11 (c11 m hsm) rfl ?_
  simp (maxSteps := 2000000) only [go_sem, ↓reduceIte, reduceCtorEq, Nat.reduceAdd, Nat.reduceMul, Nat.reduceSub, Nat.reduceLT, Nat.reduceLeDiff, Nat.reduceEqDiff, Int.reduceToNat, Int.reduceLT, Int.reduceLE, Int.reduceNeg, List.length_map, hkk, hq1]
  repeat ((with_reducible show _ = true ∧ _); refine ⟨by kernel_rfl, ?_⟩)
  first | refine CallK_pure e19 (c19 m hsm h) rfl ?_ | refine EffK_pw e19 (c19 m hsm h) rfl ?_ | refine EffK_pu e19 (c19 m hsm h) rfl ?_
  simp (maxSteps := 2000000) only [go_sem, ↓reduceIte, reduceCtorEq, Nat.reduceAdd, Nat.reduceMul, Nat.reduceSub, Nat.reduceLT, Nat.reduceLeDiff, Nat.reduceEqDiff, Int.reduceToNat, Int.reduceLT, Int.reduceLE, Int.reduceNeg, List.length_map, hkk, hq1]
  repeat ((with_reducible show _ = true ∧ _); refine ⟨by kernel_rfl, ?_⟩)
  first | refine CallK_pure e20 (c20 (pairsM m h) (pairsM m h) (by omega) (by omega)) rfl ?_ | refine EffK_pw e20 (c20 (pairsM m h) (pairsM m h) (by omega) (by omega)) rfl ?_ | refine EffK_pu e20 (c20 (pairsM m h) (pairsM m h) (by omega) (by omega)) rfl ?_ | refine CCallK_pl e20 (c20 (pairsM m h) (pairsM m h) (by omega) (by omega)) rfl rfl ?_ | refine CCallK_pm e20 (c20 (pairsM m h) (pairsM m h) (by omega) (by omega)) rfl rfl ?_
  simp (maxSteps := 2000000) only [go_sem, ↓reduceIte, reduceCtorEq, Nat.reduceAdd, Nat.reduceMul, Nat.reduceSub, Nat.reduceLT, Nat.reduceLeDiff, Nat.reduceEqDiff, Int.reduceToNat, Int.reduceLT, Int.reduceLE, Int.reduceNeg, List.length_map, hkk, hq1]
  repeat ((with_reducible show _ = true ∧ _); refine ⟨by kernel_rfl, ?_⟩)
  first | refine CallK_pure e22 (c22 ((pairsM m h)).length 1 (by omega) (by omega)) rfl ?_ | refine EffK_pw e22 (c22 ((pairsM m h)).length 1 (by omega) (by omega)) rfl ?_ | refine EffK_pu e22 (c22 ((pairsM m h)).length 1 (by omega) (by omega)) rfl ?_ | refine CCallK_pl e22 (c22 ((pairsM m h)).length 1 (by omega) (by omega)) rfl rfl ?_ | refine CCallK_pm e22 (c22 ((pairsM m h)).length 1 (by omega) (by omega)) rfl rfl ?_
  simp (maxSteps := 2000000) only [go_sem, ↓reduceIte, reduceCtorEq, Nat.reduceAdd, Nat.reduceMul, Nat.reduceSub, Nat.reduceLT, Nat.reduceLeDiff, Nat.reduceEqDiff, Int.reduceToNat, Int.reduceLT, Int.reduceLE, Int.reduceNeg, List.length_map, hkk, hq1]
  repeat ((with_reducible show _ = true ∧ _); refine ⟨by kernel_rfl, ?_⟩)
  refine Fin.nt Tryz.results4 [] ?_ ?_ ?_ <;> try trivial
theorem law (dss : List (List D)) (h : WTAll Tryz.prog 8 Tryz.f4.params.toList dss) : Ctr Tryz.prog 4 (argAVs Tryz.prog Tryz.f4.params.toList dss) [] (.one (.dat (.bool true))) [] := by
  rw [Tryz.params4] at *
  simp only [WTAll, List.toList_toArray] at h
  obtain ⟨_, _, rfl, h0, ⟨_, _, rfl, h1, rfl⟩⟩ := h
  obtain ⟨x0, rfl, w0, k0⟩ := decMem _ _ h0
  obtain ⟨x1, rfl, w1⟩ := decInt Tryz.underlying3 h1
  simp only [argAVs, argAV, List.toList_toArray, Tryz.underlying3, Tryz.underlying29, List.headD_cons]
  exact c4 x0 k0 x1

theorem own : ownKnob Tryz.prog.godebug = none := by kernel_rfl

set_option maxRecDepth 100000 in
theorem lifted (os : Os) (started : os.Started) (H : Type) (enc : TypeId × Value → H) :
    ReturnsInHanded {} Tryz.checked os 4 .any (Rows.fnExactPairsOfSpec.pre6 enc Tryz.prog Tryz.f4 Rows.fnExactPairsOfRow.domain false) (Rows.fnExactPairsOfSpec.post enc Tryz.prog Tryz.f4 false true false false) := by
  refine returnsInHanded_of_change (C := Tryz.checked) own started (by kernel_rfl) Tryz.func4
    (ChangeSpec.witness6 (enc := enc) (C := Tryz.checked) false ⟨#[], #[.agg #[.slice none 0 0, .slice none 0 0, .slice none 0 0, .slice none 0 0], .int .i64 0], []⟩ 8 (by kernel_rfl) (by kernel_rfl) (by kernel_rfl) (by kernel_rfl)) ?_
  intro W base args ds gs before hval0 hW hcnd _
  have hW' := hW
  obtain ⟨p, q, hA0, hV, rfl, hfz, hnd⟩ := hW'
  have hA : DataW.TrodAll enc Tryz.prog W 0 (fun _ => true) true Tryz.f4.params.toList args.toList ds p := hA0
  obtain ⟨dss, h1, h2⟩ := args_rep (n := 8) (by kernel_rfl) (fun j t v hj hv => hval0 j t v (by simpa using hj) (by simpa using hv)) hA
  have hs : Rows.fnExactPairsOfSpec.fn H (ds ++ gs) = { results := [.lit (.bool true)], args := ds, vars := [] } := by
    obtain ⟨rfl, rfl⟩ := trodVars_none hV
    rw [Tryz.params4] at hA
    obtain ⟨v0, vs0, d0, ds0, p0, q0, _, rfl, _, _, r0⟩ := trodAll_cons hA
    obtain ⟨v1, vs1, d1, ds1, p1, q1, _, rfl, _, _, r1⟩ := trodAll_cons r0
    obtain ⟨_, rfl, _⟩ := trodAll_nil r1
    rfl
  have hc := law_calls (law dss h1) h2
  rw [Array.toArray_toList] at hc
  refine hc.mono fun e W' ⟨he, hb⟩ => ?_
  subst he
  exact ⟨_, rfl, law_post (by kernel_rfl) (by kernel_rfl) rfl hW hs rfl Tryz.underlying4 hb⟩

theorem over : Rows.fnExactPairsOfRow.holds Tryz.pinned (OpenSpec.ofChange Rows.fnExactPairsOfSpec) :=
  OpenClaim.holds_of_wide 4 Tryz.f4 rfl rfl rfl rfl rfl rfl rfl ⟨rfl, rfl, rfl, rfl, rfl⟩ rfl rfl rfl rfl rfl (by kernel_rfl) Tryz.func4 (by kernel_rfl)
    (of_decide_eq_true (by kernel_rfl)) (by unfold Func.isWrapper; first | (rw [if_pos (by decide +kernel)]; kernel_rfl) | (rw [if_neg (by decide +kernel)]; exact ⟨rfl, rfl⟩))
    (fun os started H enc _ => lifted os started H enc)

theorem proved : Rows.FnExactPairsOfSaid :=
  over
end Go.Proofs.YtacmmahhlognnaaGreat.fnExactPairsOf
