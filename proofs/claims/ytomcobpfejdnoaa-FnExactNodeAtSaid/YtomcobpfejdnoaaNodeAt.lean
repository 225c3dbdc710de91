/- FnExactNodeAt: the program answers as the statement says, at every argument. -/
import Derived.Test.YtomcobpfejdnoaaRows
import Derived.Test.YtomcobpfejdnoaaTy
import Derived.Test.YtomcobpfejdnoaaAbsTac
import Derived.Test.YtomcobpfejdnoaaAbsData
import Derived.Test.YtomcobpfejdnoaaMFam
import Derived.Test.YtomcobpfejdnoaaMFam2
import Derived.Test.YtomcobpfejdnoaaMStore
import Derived.WalkKit
import Derived.ProofKit
import Derived.OpenShut
namespace Go.Proofs.Ytomcobpfejdnoaa.fnExactNodeAt
open Go.Abs Go.Proofs.Ytomcobpfejdnoaa.Ty Go.ChangeShapes Go.WideShapes Go.ChangeAt Go.RowKit Go.Proofs.Ytomcobpfejdnoaa.Mod
set_option linter.unusedSimpArgs false
set_option linter.unusedVariables false
set_option maxHeartbeats 8000000
set_option maxRecDepth 100000
theorem c3 (m : Mem) (hkm : m.lok) (h : Int) : Ctr Try.prog 3 [.agg ((encMem m).map .dat), .one (.dat (.int .i64 h))] [] (.one (.dat (.bool true))) [] := by
  simp only [encMem, List.map_cons, List.map_nil]
  refine Ctr.bd mixed Try.func3 rfl ?_
  simp (maxSteps := 2000000) only [go_sem, ↓reduceIte, reduceCtorEq, Nat.reduceAdd, Nat.reduceMul, Nat.reduceSub, Nat.reduceLT, Nat.reduceLeDiff, Nat.reduceEqDiff, Int.reduceToNat, Int.reduceLT, Int.reduceLE, Int.reduceNeg, List.length_map, encNode]
  repeat ((with_reducible show _ = true ∧ _); refine ⟨by kernel_rfl, ?_⟩)
  refine CallK_pure e5 (c5 m hkm 1048576 (by decide) (by decide)) rfl ?_
  simp (maxSteps := 2000000) only [go_sem, ↓reduceIte, reduceCtorEq, Nat.reduceAdd, Nat.reduceMul, Nat.reduceSub, Nat.reduceLT, Nat.reduceLeDiff, Nat.reduceEqDiff, Int.reduceToNat, Int.reduceLT, Int.reduceLE, Int.reduceNeg, List.length_map, encNode]
  repeat ((with_reducible show _ = true ∧ _); refine ⟨by kernel_rfl, ?_⟩)
  refine ⟨fun h => ?_, fun h => ?_⟩
  · refine Fin.nt Try.results3 [] ?_ ?_ ?_ <;> try trivial
  obtain ⟨hsm, hzm, hgm, hhm⟩ := szL_le (by decide) h
  clear h
  repeat ((with_reducible show _ = true ∧ _); refine ⟨by kernel_rfl, ?_⟩)
  first
    | refine CallK_pure e7 (c7 m hsm) rfl ?_
    | refine CCallK_plain e7 (c7 m hsm) rfl rfl ?_ (fun _ => by simp)
    | refine Or.inl (CCallK_plain e7 (c7 m hsm) rfl rfl ?_ (fun _ => by simp))
    | refine Or.inr ⟨by kernel_rfl, EffK_pure e7 (c7 m hsm) rfl ?_⟩
    | refine Or.inr (EffK_pure e7 (c7 m hsm) rfl ?_)
  simp (maxSteps := 2000000) only [go_sem, ↓reduceIte, reduceCtorEq, Nat.reduceAdd, Nat.reduceMul, Nat.reduceSub, Nat.reduceLT, Nat.reduceLeDiff, Nat.reduceEqDiff, Int.reduceToNat, Int.reduceLT, Int.reduceLE, Int.reduceNeg, List.length_map, encNode]
  repeat ((with_reducible show _ = true ∧ _); refine ⟨by kernel_rfl, ?_⟩)
  first
    | refine CallK_pure e6 (c6 m hsm h) rfl ?_
    | refine CCallK_plain e6 (c6 m hsm h) rfl rfl ?_ (fun _ => by simp)
    | refine Or.inl (CCallK_plain e6 (c6 m hsm h) rfl rfl ?_ (fun _ => by simp))
    | refine Or.inr ⟨by kernel_rfl, EffK_pure e6 (c6 m hsm h) rfl ?_⟩
    | refine Or.inr (EffK_pure e6 (c6 m hsm h) rfl ?_)
  simp (maxSteps := 2000000) only [go_sem, ↓reduceIte, reduceCtorEq, Nat.reduceAdd, Nat.reduceMul, Nat.reduceSub, Nat.reduceLT, Nat.reduceLeDiff, Nat.reduceEqDiff, Int.reduceToNat, Int.reduceLT, Int.reduceLE, Int.reduceNeg, List.length_map, encNode]
  repeat ((with_reducible show _ = true ∧ _); refine ⟨by kernel_rfl, ?_⟩)
  first
    | refine CallK_pure e7 (c7 m hsm) rfl ?_
    | refine CCallK_plain e7 (c7 m hsm) rfl rfl ?_ (fun _ => by simp)
    | refine Or.inl (CCallK_plain e7 (c7 m hsm) rfl rfl ?_ (fun _ => by simp))
    | refine Or.inr ⟨by kernel_rfl, EffK_pure e7 (c7 m hsm) rfl ?_⟩
    | refine Or.inr (EffK_pure e7 (c7 m hsm) rfl ?_)
  simp (maxSteps := 2000000) only [go_sem, ↓reduceIte, reduceCtorEq, Nat.reduceAdd, Nat.reduceMul, Nat.reduceSub, Nat.reduceLT, Nat.reduceLeDiff, Nat.reduceEqDiff, Int.reduceToNat, Int.reduceLT, Int.reduceLE, Int.reduceNeg, List.length_map, encNode]
  repeat ((with_reducible show _ = true ∧ _); refine ⟨by kernel_rfl, ?_⟩)
  first
    | refine CallK_pure e8 (c8 m hsm h) rfl ?_
    | refine CCallK_plain e8 (c8 m hsm h) rfl rfl ?_ (fun _ => by simp)
    | refine Or.inl (CCallK_plain e8 (c8 m hsm h) rfl rfl ?_ (fun _ => by simp))
    | refine Or.inr ⟨by kernel_rfl, EffK_pure e8 (c8 m hsm h) rfl ?_⟩
    | refine Or.inr (EffK_pure e8 (c8 m hsm h) rfl ?_)
  simp (maxSteps := 2000000) only [go_sem, ↓reduceIte, reduceCtorEq, Nat.reduceAdd, Nat.reduceMul, Nat.reduceSub, Nat.reduceLT, Nat.reduceLeDiff, Nat.reduceEqDiff, Int.reduceToNat, Int.reduceLT, Int.reduceLE, Int.reduceNeg, List.length_map, encNode]
  repeat ((with_reducible show _ = true ∧ _); refine ⟨by kernel_rfl, ?_⟩)
  first
    | refine CallK_pure e9 (c9 (nodeAtM m h).1 (nodeAtM m h).1) rfl ?_
    | refine CCallK_plain e9 (c9 (nodeAtM m h).1 (nodeAtM m h).1) rfl rfl ?_ (fun _ => by simp)
    | refine Or.inl (CCallK_plain e9 (c9 (nodeAtM m h).1 (nodeAtM m h).1) rfl rfl ?_ (fun _ => by simp))
    | refine Or.inr ⟨by kernel_rfl, EffK_pure e9 (c9 (nodeAtM m h).1 (nodeAtM m h).1) rfl ?_⟩
    | refine Or.inr (EffK_pure e9 (c9 (nodeAtM m h).1 (nodeAtM m h).1) rfl ?_)
  simp (maxSteps := 2000000) only [go_sem, ↓reduceIte, reduceCtorEq, Nat.reduceAdd, Nat.reduceMul, Nat.reduceSub, Nat.reduceLT, Nat.reduceLeDiff, Nat.reduceEqDiff, Int.reduceToNat, Int.reduceLT, Int.reduceLE, Int.reduceNeg, List.length_map, encNode]
  repeat ((with_reducible show _ = true ∧ _); refine ⟨by kernel_rfl, ?_⟩)
  first
    | refine CallK_pure e7 (c7 m hsm) rfl ?_
    | refine CCallK_plain e7 (c7 m hsm) rfl rfl ?_ (fun _ => by simp)
    | refine Or.inl (CCallK_plain e7 (c7 m hsm) rfl rfl ?_ (fun _ => by simp))
    | refine Or.inr ⟨by kernel_rfl, EffK_pure e7 (c7 m hsm) rfl ?_⟩
    | refine Or.inr (EffK_pure e7 (c7 m hsm) rfl ?_)
  simp (maxSteps := 2000000) only [go_sem, ↓reduceIte, reduceCtorEq, Nat.reduceAdd, Nat.reduceMul, Nat.reduceSub, Nat.reduceLT, Nat.reduceLeDiff, Nat.reduceEqDiff, Int.reduceToNat, Int.reduceLT, Int.reduceLE, Int.reduceNeg, List.length_map, encNode]
  repeat ((with_reducible show _ = true ∧ _); refine ⟨by kernel_rfl, ?_⟩)
  first
    | refine CallK_pure e10 (c10 m m hsm hsm) rfl ?_
    | refine CCallK_plain e10 (c10 m m hsm hsm) rfl rfl ?_ (fun _ => by simp)
    | refine Or.inl (CCallK_plain e10 (c10 m m hsm hsm) rfl rfl ?_ (fun _ => by simp))
    | refine Or.inr ⟨by kernel_rfl, EffK_pure e10 (c10 m m hsm hsm) rfl ?_⟩
    | refine Or.inr (EffK_pure e10 (c10 m m hsm hsm) rfl ?_)
  simp (maxSteps := 2000000) only [go_sem, ↓reduceIte, reduceCtorEq, Nat.reduceAdd, Nat.reduceMul, Nat.reduceSub, Nat.reduceLT, Nat.reduceLeDiff, Nat.reduceEqDiff, Int.reduceToNat, Int.reduceLT, Int.reduceLE, Int.reduceNeg, List.length_map, encNode]
  repeat ((with_reducible show _ = true ∧ _); refine ⟨by kernel_rfl, ?_⟩)
  refine Fin.nt Try.results3 [] ?_ ?_ ?_ <;> try trivial
theorem law (dss : List (List D)) (h : WTAll Try.prog 8 Try.f3.params.toList dss) : Ctr Try.prog 3 (argAVs Try.prog Try.f3.params.toList dss) [] (.one (.dat (.bool true))) [] := by
  rw [Try.params3] at *
  simp only [WTAll, List.toList_toArray] at h
  obtain ⟨_, _, rfl, h0, ⟨_, _, rfl, h1, rfl⟩⟩ := h
  obtain ⟨x0, rfl, w0, k0⟩ := decMem _ _ h0
  obtain ⟨x1, rfl, w1⟩ := decInt Try.underlying3 h1
  simp only [argAVs, argAV, List.toList_toArray, Try.underlying3, Try.underlying29, List.headD_cons]
  exact c3 x0 k0 x1

theorem own : ownKnob Try.prog.godebug = none := by kernel_rfl

set_option maxRecDepth 100000 in
theorem lifted (os : Os) (started : os.Started) (H : Type) (enc : TypeId × Value → H) :
    ReturnsInHanded {} Try.checked os 3 .any (Rows.fnExactNodeAtSpec.pre6 enc Try.prog Try.f3 Rows.fnExactNodeAtRow.domain false) (Rows.fnExactNodeAtSpec.post enc Try.prog Try.f3 false true false false) := by
  refine returnsInHanded_of_change (C := Try.checked) own started (by kernel_rfl) Try.func3
    (ChangeSpec.witness6 (enc := enc) (C := Try.checked) false ⟨#[], #[.agg #[.slice none 0 0, .slice none 0 0, .slice none 0 0, .slice none 0 0], .int .i64 0], []⟩ 8 (by kernel_rfl) (by kernel_rfl) (by kernel_rfl) (by kernel_rfl)) ?_
  intro W base args ds gs before hval0 hW hcnd _
  have hW' := hW
  obtain ⟨p, q, hA0, hV, rfl, hfz, hnd⟩ := hW'
  have hA : DataW.TrodAll enc Try.prog W 0 (fun _ => true) true Try.f3.params.toList args.toList ds p := hA0
  obtain ⟨dss, h1, h2⟩ := args_rep (n := 8) (by kernel_rfl) (fun j t v hj hv => hval0 j t v (by simpa using hj) (by simpa using hv)) hA
  have hs : Rows.fnExactNodeAtSpec.fn H (ds ++ gs) = { results := [.lit (.bool true)], args := ds, vars := [] } := by
    obtain ⟨rfl, rfl⟩ := trodVars_none hV
    rw [Try.params3] at hA
    obtain ⟨v0, vs0, d0, ds0, p0, q0, _, rfl, _, _, r0⟩ := trodAll_cons hA
    obtain ⟨v1, vs1, d1, ds1, p1, q1, _, rfl, _, _, r1⟩ := trodAll_cons r0
    obtain ⟨_, rfl, _⟩ := trodAll_nil r1
    rfl
  have hc := law_calls (law dss h1) h2
  rw [Array.toArray_toList] at hc
  refine hc.mono fun e W' ⟨he, hb⟩ => ?_
  subst he
  exact ⟨_, rfl, law_post (by kernel_rfl) (by kernel_rfl) rfl hW hs rfl Try.underlying4 hb⟩

theorem over : Rows.fnExactNodeAtRow.holds Try.pinned (OpenSpec.ofChange Rows.fnExactNodeAtSpec) :=
  OpenClaim.holds_of_wide 3 Try.f3 rfl rfl rfl rfl rfl rfl rfl ⟨rfl, rfl, rfl, rfl, rfl⟩ rfl rfl rfl rfl rfl (by kernel_rfl) Try.func3 (by kernel_rfl)
    (of_decide_eq_true (by kernel_rfl)) (by unfold Func.isWrapper; first | (rw [if_pos (by decide +kernel)]; kernel_rfl) | (rw [if_neg (by decide +kernel)]; exact ⟨rfl, rfl⟩))
    (fun os started H enc _ => lifted os started H enc)

theorem proved : Rows.FnExactNodeAtSaid :=
  over
end Go.Proofs.Ytomcobpfejdnoaa.fnExactNodeAt
