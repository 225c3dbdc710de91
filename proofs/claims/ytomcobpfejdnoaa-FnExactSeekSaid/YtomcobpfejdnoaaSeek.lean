/- FnExactSeek: the program answers as the statement says, at every argument. -/
import Derived.Test.YtomcobpfejdnoaaRows
import Derived.Test.YtomcobpfejdnoaaTy
import Derived.Test.YtomcobpfejdnoaaAbsTac
import Derived.Test.YtomcobpfejdnoaaAbsData
import Derived.Test.YtomcobpfejdnoaaMFam2
import Derived.Test.YtomcobpfejdnoaaMChain
import Derived.WalkKit
import Derived.ProofKit
import Derived.OpenShut
namespace Go.Proofs.Ytomcobpfejdnoaa.fnExactSeek
open Go.Abs Go.Proofs.Ytomcobpfejdnoaa.Ty Go.ChangeShapes Go.WideShapes Go.ChangeAt Go.RowKit Go.Proofs.Ytomcobpfejdnoaa.Mod
set_option linter.unusedSimpArgs false
set_option linter.unusedVariables false
set_option maxHeartbeats 8000000
set_option maxRecDepth 100000
theorem c4 (m : Mem) (hkm : m.lok) (h : Int) (k : Int) : Ctr Try.prog 4 [.agg ((encMem m).map .dat), .one (.dat (.int .i64 h)), .one (.dat (.int .i64 k))] [] (.one (.dat (.bool true))) [] := by
  simp only [encMem, List.map_cons, List.map_nil]
  refine Ctr.bd mixed Try.func4 rfl ?_
  simp (maxSteps := 2000000) only [go_sem, ↓reduceIte, reduceCtorEq, Nat.reduceAdd, Nat.reduceMul, Nat.reduceSub, Nat.reduceLT, Nat.reduceLeDiff, Nat.reduceEqDiff, Int.reduceToNat, Int.reduceLT, Int.reduceLE, Int.reduceNeg, List.length_map]
  repeat ((with_reducible show _ = true ∧ _); refine ⟨by kernel_rfl, ?_⟩)
  refine CallK_pure e5 (c5 m hkm 1048576 (by decide) (by decide)) rfl ?_
  simp (maxSteps := 2000000) only [go_sem, ↓reduceIte, reduceCtorEq, Nat.reduceAdd, Nat.reduceMul, Nat.reduceSub, Nat.reduceLT, Nat.reduceLeDiff, Nat.reduceEqDiff, Int.reduceToNat, Int.reduceLT, Int.reduceLE, Int.reduceNeg, List.length_map]
  repeat ((with_reducible show _ = true ∧ _); refine ⟨by kernel_rfl, ?_⟩)
  refine ⟨fun h => ?_, fun h => ?_⟩
  · refine Fin.nt Try.results4 [] ?_ ?_ ?_ <;> try trivial
  obtain ⟨hsm, hzm, hgm, hhm⟩ := szL_le (by decide) h
  clear h
  repeat ((with_reducible show _ = true ∧ _); refine ⟨by kernel_rfl, ?_⟩)
  first
    | refine CallK_pure e7 (c7 m hsm) rfl ?_
    | refine CCallK_plain e7 (c7 m hsm) rfl rfl ?_ (fun _ => by simp)
    | refine Or.inl (CCallK_plain e7 (c7 m hsm) rfl rfl ?_ (fun _ => by simp))
    | refine Or.inr ⟨by kernel_rfl, EffK_pure e7 (c7 m hsm) rfl ?_⟩
    | refine Or.inr (EffK_pure e7 (c7 m hsm) rfl ?_)
  simp (maxSteps := 2000000) only [go_sem, ↓reduceIte, reduceCtorEq, Nat.reduceAdd, Nat.reduceMul, Nat.reduceSub, Nat.reduceLT, Nat.reduceLeDiff, Nat.reduceEqDiff, Int.reduceToNat, Int.reduceLT, Int.reduceLE, Int.reduceNeg, List.length_map]
  repeat ((with_reducible show _ = true ∧ _); refine ⟨by kernel_rfl, ?_⟩)
  first
    | refine CallK_pure e11 (c11 m hsm h k) rfl ?_
    | refine CCallK_plain e11 (c11 m hsm h k) rfl rfl ?_ (fun _ => by simp)
    | refine Or.inl (CCallK_plain e11 (c11 m hsm h k) rfl rfl ?_ (fun _ => by simp))
    | refine Or.inr ⟨by kernel_rfl, EffK_pure e11 (c11 m hsm h k) rfl ?_⟩
    | refine Or.inr (EffK_pure e11 (c11 m hsm h k) rfl ?_)
  simp (maxSteps := 2000000) only [go_sem, ↓reduceIte, reduceCtorEq, Nat.reduceAdd, Nat.reduceMul, Nat.reduceSub, Nat.reduceLT, Nat.reduceLeDiff, Nat.reduceEqDiff, Int.reduceToNat, Int.reduceLT, Int.reduceLE, Int.reduceNeg, List.length_map]
  repeat ((with_reducible show _ = true ∧ _); refine ⟨by kernel_rfl, ?_⟩)
  first
    | refine CallK_pure e7 (c7 m hsm) rfl ?_
    | refine CCallK_plain e7 (c7 m hsm) rfl rfl ?_ (fun _ => by simp)
    | refine Or.inl (CCallK_plain e7 (c7 m hsm) rfl rfl ?_ (fun _ => by simp))
    | refine Or.inr ⟨by kernel_rfl, EffK_pure e7 (c7 m hsm) rfl ?_⟩
    | refine Or.inr (EffK_pure e7 (c7 m hsm) rfl ?_)
  simp (maxSteps := 2000000) only [go_sem, ↓reduceIte, reduceCtorEq, Nat.reduceAdd, Nat.reduceMul, Nat.reduceSub, Nat.reduceLT, Nat.reduceLeDiff, Nat.reduceEqDiff, Int.reduceToNat, Int.reduceLT, Int.reduceLE, Int.reduceNeg, List.length_map]
  repeat ((with_reducible show _ = true ∧ _); refine ⟨by kernel_rfl, ?_⟩)
  first
    | refine CallK_pure e12 (c12 m hsm h k) rfl ?_
    | refine CCallK_plain e12 (c12 m hsm h k) rfl rfl ?_ (fun _ => by simp)
    | refine Or.inl (CCallK_plain e12 (c12 m hsm h k) rfl rfl ?_ (fun _ => by simp))
    | refine Or.inr ⟨by kernel_rfl, EffK_pure e12 (c12 m hsm h k) rfl ?_⟩
    | refine Or.inr (EffK_pure e12 (c12 m hsm h k) rfl ?_)
  simp (maxSteps := 2000000) only [go_sem, ↓reduceIte, reduceCtorEq, Nat.reduceAdd, Nat.reduceMul, Nat.reduceSub, Nat.reduceLT, Nat.reduceLeDiff, Nat.reduceEqDiff, Int.reduceToNat, Int.reduceLT, Int.reduceLE, Int.reduceNeg, List.length_map]
  repeat ((with_reducible show _ = true ∧ _); refine ⟨by kernel_rfl, ?_⟩)
  first
    | refine CallK_pure e7 (c7 m hsm) rfl ?_
    | refine CCallK_plain e7 (c7 m hsm) rfl rfl ?_ (fun _ => by simp)
    | refine Or.inl (CCallK_plain e7 (c7 m hsm) rfl rfl ?_ (fun _ => by simp))
    | refine Or.inr ⟨by kernel_rfl, EffK_pure e7 (c7 m hsm) rfl ?_⟩
    | refine Or.inr (EffK_pure e7 (c7 m hsm) rfl ?_)
  simp (maxSteps := 2000000) only [go_sem, ↓reduceIte, reduceCtorEq, Nat.reduceAdd, Nat.reduceMul, Nat.reduceSub, Nat.reduceLT, Nat.reduceLeDiff, Nat.reduceEqDiff, Int.reduceToNat, Int.reduceLT, Int.reduceLE, Int.reduceNeg, List.length_map]
  repeat ((with_reducible show _ = true ∧ _); refine ⟨by kernel_rfl, ?_⟩)
  first
    | refine CallK_pure e10 (c10 m m hsm hsm) rfl ?_
    | refine CCallK_plain e10 (c10 m m hsm hsm) rfl rfl ?_ (fun _ => by simp)
    | refine Or.inl (CCallK_plain e10 (c10 m m hsm hsm) rfl rfl ?_ (fun _ => by simp))
    | refine Or.inr ⟨by kernel_rfl, EffK_pure e10 (c10 m m hsm hsm) rfl ?_⟩
    | refine Or.inr (EffK_pure e10 (c10 m m hsm hsm) rfl ?_)
  simp (maxSteps := 2000000) only [go_sem, ↓reduceIte, reduceCtorEq, Nat.reduceAdd, Nat.reduceMul, Nat.reduceSub, Nat.reduceLT, Nat.reduceLeDiff, Nat.reduceEqDiff, Int.reduceToNat, Int.reduceLT, Int.reduceLE, Int.reduceNeg, List.length_map]
  repeat ((with_reducible show _ = true ∧ _); refine ⟨by kernel_rfl, ?_⟩)
  refine Fin.nt Try.results4 [] ?_ ?_ ?_ <;> try trivial
theorem law (dss : List (List D)) (h : WTAll Try.prog 8 Try.f4.params.toList dss) : Ctr Try.prog 4 (argAVs Try.prog Try.f4.params.toList dss) [] (.one (.dat (.bool true))) [] := by
  rw [Try.params4] at *
  simp only [WTAll, List.toList_toArray] at h
  obtain ⟨_, _, rfl, h0, ⟨_, _, rfl, h1, ⟨_, _, rfl, h2, rfl⟩⟩⟩ := h
  obtain ⟨x0, rfl, w0, k0⟩ := decMem _ _ h0
  obtain ⟨x1, rfl, w1⟩ := decInt Try.underlying3 h1
  obtain ⟨x2, rfl, w2⟩ := decInt Try.underlying3 h2
  simp only [argAVs, argAV, List.toList_toArray, Try.underlying3, Try.underlying29, List.headD_cons]
  exact c4 x0 k0 x1 x2

theorem own : ownKnob Try.prog.godebug = none := by kernel_rfl

set_option maxRecDepth 100000 in
theorem lifted (os : Os) (started : os.Started) (H : Type) (enc : TypeId × Value → H) :
    ReturnsInHanded {} Try.checked os 4 .any (Rows.fnExactSeekSpec.pre6 enc Try.prog Try.f4 Rows.fnExactSeekRow.domain false) (Rows.fnExactSeekSpec.post enc Try.prog Try.f4 false true false false) := by
  refine returnsInHanded_of_change (C := Try.checked) own started (by kernel_rfl) Try.func4
    (ChangeSpec.witness6 (enc := enc) (C := Try.checked) false ⟨#[], #[.agg #[.slice none 0 0, .slice none 0 0, .slice none 0 0, .slice none 0 0], .int .i64 0, .int .i64 0], []⟩ 8 (by kernel_rfl) (by kernel_rfl) (by kernel_rfl) (by kernel_rfl)) ?_
  intro W base args ds gs before hval0 hW hcnd _
  have hW' := hW
  obtain ⟨p, q, hA0, hV, rfl, hfz, hnd⟩ := hW'
  have hA : DataW.TrodAll enc Try.prog W 0 (fun _ => true) true Try.f4.params.toList args.toList ds p := hA0
  obtain ⟨dss, h1, h2⟩ := args_rep (n := 8) (by kernel_rfl) (fun j t v hj hv => hval0 j t v (by simpa using hj) (by simpa using hv)) hA
  have hs : Rows.fnExactSeekSpec.fn H (ds ++ gs) = { results := [.lit (.bool true)], args := ds, vars := [] } := by
    obtain ⟨rfl, rfl⟩ := trodVars_none hV
    rw [Try.params4] at hA
    obtain ⟨v0, vs0, d0, ds0, p0, q0, _, rfl, _, _, r0⟩ := trodAll_cons hA
    obtain ⟨v1, vs1, d1, ds1, p1, q1, _, rfl, _, _, r1⟩ := trodAll_cons r0
    obtain ⟨v2, vs2, d2, ds2, p2, q2, _, rfl, _, _, r2⟩ := trodAll_cons r1
    obtain ⟨_, rfl, _⟩ := trodAll_nil r2
    rfl
  have hc := law_calls (law dss h1) h2
  rw [Array.toArray_toList] at hc
  refine hc.mono fun e W' ⟨he, hb⟩ => ?_
  subst he
  exact ⟨_, rfl, law_post (by kernel_rfl) (by kernel_rfl) rfl hW hs rfl Try.underlying4 hb⟩

theorem over : Rows.fnExactSeekRow.holds Try.pinned (OpenSpec.ofChange Rows.fnExactSeekSpec) :=
  OpenClaim.holds_of_wide 4 Try.f4 rfl rfl rfl rfl rfl rfl rfl ⟨rfl, rfl, rfl, rfl, rfl⟩ rfl rfl rfl rfl rfl (by kernel_rfl) Try.func4 (by kernel_rfl)
    (of_decide_eq_true (by kernel_rfl)) (by unfold Func.isWrapper; first | (rw [if_pos (by decide +kernel)]; kernel_rfl) | (rw [if_neg (by decide +kernel)]; exact ⟨rfl, rfl⟩))
    (fun os started H enc _ => lifted os started H enc)

theorem proved : Rows.FnExactSeekSaid :=
  over
end Go.Proofs.Ytomcobpfejdnoaa.fnExactSeek
