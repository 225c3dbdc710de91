/- FnExactSameTable: the program answers as the statement says, at every argument. -/
import Derived.Test.YtjfpaiencojehaaGreatRows
import Derived.Test.YtjfpaiencojehaaGreatTy
import Derived.Test.YtjfpaiencojehaaGreatAbsTac
import Derived.Test.YtjfpaiencojehaaGreatAbsData
import Derived.Test.YtjfpaiencojehaaGreatMFam2
import Derived.Test.YtjfpaiencojehaaGreatMSame
import Derived.WalkKit
import Derived.ProofKit
import Derived.OpenShut
namespace Go.Proofs.YtjfpaiencojehaaGreat.fnExactSameTable
open Go.Abs Go.Proofs.YtjfpaiencojehaaGreat.Ty Go.ChangeShapes Go.WideShapes Go.ChangeAt Go.RowKit Go.Proofs.YtjfpaiencojehaaGreat.Mod
set_option linter.unusedSimpArgs false
set_option linter.unusedVariables false
set_option maxHeartbeats 8000000
set_option maxRecDepth 100000
theorem c4 (a : Table) (hka : a.lok) (b : Table) (hkb : b.lok) : Ctr Tryz.prog 4 [.agg ((encTable a).map .dat), .agg ((encTable b).map .dat)] [] (.one (.dat (.bool true))) [] := by
  simp only [encTable, List.map_cons, List.map_nil]
  refine Ctr.bd mixed Tryz.func4 rfl ?_
  simp (maxSteps := 2000000) only [go_sem, ↓reduceIte, reduceCtorEq, Nat.reduceAdd, Nat.reduceMul, Nat.reduceSub, Nat.reduceLT, Nat.reduceLeDiff, Nat.reduceEqDiff, Int.reduceToNat, Int.reduceLT, Int.reduceLE, Int.reduceNeg, List.length_map]
  repeat ((with_reducible show _ = true ∧ _); refine ⟨by kernel_rfl, ?_⟩)
  refine CallK_pure e5 (c5 a hka 1048576 (by decide) (by decide)) rfl ?_
  simp (maxSteps := 2000000) only [go_sem, ↓reduceIte, reduceCtorEq, Nat.reduceAdd, Nat.reduceMul, Nat.reduceSub, Nat.reduceLT, Nat.reduceLeDiff, Nat.reduceEqDiff, Int.reduceToNat, Int.reduceLT, Int.reduceLE, Int.reduceNeg, List.length_map]
  repeat ((with_reducible show _ = true ∧ _); refine ⟨by kernel_rfl, ?_⟩)
  refine ⟨fun h => ?_, fun h => ?_⟩
  · refine Fin.nt Tryz.results4 [] ?_ ?_ ?_ <;> try trivial
  obtain ⟨hsa, hza, hga, hha⟩ := szL_le (by decide) h
  clear h
  repeat ((with_reducible show _ = true ∧ _); refine ⟨by kernel_rfl, ?_⟩)
  refine CallK_pure e5 (c5 b hkb (szL 1048576 (sizTable a)) hga hha) rfl ?_
  simp (maxSteps := 2000000) only [go_sem, ↓reduceIte, reduceCtorEq, Nat.reduceAdd, Nat.reduceMul, Nat.reduceSub, Nat.reduceLT, Nat.reduceLeDiff, Nat.reduceEqDiff, Int.reduceToNat, Int.reduceLT, Int.reduceLE, Int.reduceNeg, List.length_map]
  repeat ((with_reducible show _ = true ∧ _); refine ⟨by kernel_rfl, ?_⟩)
  refine ⟨fun h => ?_, fun h => ?_⟩
  · refine Fin.nt Tryz.results4 [] ?_ ?_ ?_ <;> try trivial
  obtain ⟨hsb, hzb, hgb, hhb⟩ := szL_le hha h
  clear h
  repeat ((with_reducible show _ = true ∧ _); refine ⟨by kernel_rfl, ?_⟩)
  first
    | refine CallK_pure e7 (c7 a hsa) rfl ?_
    | refine CCallK_plain e7 (c7 a hsa) rfl rfl ?_ (fun _ => by simp)
    | refine Or.inl (CCallK_plain e7 (c7 a hsa) rfl rfl ?_ (fun _ => by simp))
    | refine Or.inr ⟨by kernel_rfl, EffK_pure e7 (c7 a hsa) rfl ?_⟩
    | refine Or.inr (EffK_pure e7 (c7 a hsa) rfl ?_)
  simp (maxSteps := 2000000) only [go_sem, ↓reduceIte, reduceCtorEq, Nat.reduceAdd, Nat.reduceMul, Nat.reduceSub, Nat.reduceLT, Nat.reduceLeDiff, Nat.reduceEqDiff, Int.reduceToNat, Int.reduceLT, Int.reduceLE, Int.reduceNeg, List.length_map]
  repeat ((with_reducible show _ = true ∧ _); refine ⟨by kernel_rfl, ?_⟩)
  first
    | refine CallK_pure e7 (c7 b hsb) rfl ?_
    | refine CCallK_plain e7 (c7 b hsb) rfl rfl ?_ (fun _ => by simp)
    | refine Or.inl (CCallK_plain e7 (c7 b hsb) rfl rfl ?_ (fun _ => by simp))
    | refine Or.inr ⟨by kernel_rfl, EffK_pure e7 (c7 b hsb) rfl ?_⟩
    | refine Or.inr (EffK_pure e7 (c7 b hsb) rfl ?_)
  simp (maxSteps := 2000000) only [go_sem, ↓reduceIte, reduceCtorEq, Nat.reduceAdd, Nat.reduceMul, Nat.reduceSub, Nat.reduceLT, Nat.reduceLeDiff, Nat.reduceEqDiff, Int.reduceToNat, Int.reduceLT, Int.reduceLE, Int.reduceNeg, List.length_map]
  repeat ((with_reducible show _ = true ∧ _); refine ⟨by kernel_rfl, ?_⟩)
  first
    | refine CallK_pure e10 (c10 a b (Table.sok_of hsa) (Table.sok_of hsb)) rfl ?_
    | refine CCallK_plain e10 (c10 a b (Table.sok_of hsa) (Table.sok_of hsb)) rfl rfl ?_ (fun _ => by simp)
    | refine Or.inl (CCallK_plain e10 (c10 a b (Table.sok_of hsa) (Table.sok_of hsb)) rfl rfl ?_ (fun _ => by simp))
    | refine Or.inr ⟨by kernel_rfl, EffK_pure e10 (c10 a b (Table.sok_of hsa) (Table.sok_of hsb)) rfl ?_⟩
    | refine Or.inr (EffK_pure e10 (c10 a b (Table.sok_of hsa) (Table.sok_of hsb)) rfl ?_)
  simp (maxSteps := 2000000) only [go_sem, ↓reduceIte, reduceCtorEq, Nat.reduceAdd, Nat.reduceMul, Nat.reduceSub, Nat.reduceLT, Nat.reduceLeDiff, Nat.reduceEqDiff, Int.reduceToNat, Int.reduceLT, Int.reduceLE, Int.reduceNeg, List.length_map]
  repeat ((with_reducible show _ = true ∧ _); refine ⟨by kernel_rfl, ?_⟩)
  first
    | refine CallK_pure e7 (c7 a hsa) rfl ?_
    | refine CCallK_plain e7 (c7 a hsa) rfl rfl ?_ (fun _ => by simp)
    | refine Or.inl (CCallK_plain e7 (c7 a hsa) rfl rfl ?_ (fun _ => by simp))
    | refine Or.inr ⟨by kernel_rfl, EffK_pure e7 (c7 a hsa) rfl ?_⟩
    | refine Or.inr (EffK_pure e7 (c7 a hsa) rfl ?_)
  simp (maxSteps := 2000000) only [go_sem, ↓reduceIte, reduceCtorEq, Nat.reduceAdd, Nat.reduceMul, Nat.reduceSub, Nat.reduceLT, Nat.reduceLeDiff, Nat.reduceEqDiff, Int.reduceToNat, Int.reduceLT, Int.reduceLE, Int.reduceNeg, List.length_map]
  repeat ((with_reducible show _ = true ∧ _); refine ⟨by kernel_rfl, ?_⟩)
  first
    | refine CallK_pure e7 (c7 b hsb) rfl ?_
    | refine CCallK_plain e7 (c7 b hsb) rfl rfl ?_ (fun _ => by simp)
    | refine Or.inl (CCallK_plain e7 (c7 b hsb) rfl rfl ?_ (fun _ => by simp))
    | refine Or.inr ⟨by kernel_rfl, EffK_pure e7 (c7 b hsb) rfl ?_⟩
    | refine Or.inr (EffK_pure e7 (c7 b hsb) rfl ?_)
  simp (maxSteps := 2000000) only [go_sem, ↓reduceIte, reduceCtorEq, Nat.reduceAdd, Nat.reduceMul, Nat.reduceSub, Nat.reduceLT, Nat.reduceLeDiff, Nat.reduceEqDiff, Int.reduceToNat, Int.reduceLT, Int.reduceLE, Int.reduceNeg, List.length_map]
  repeat ((with_reducible show _ = true ∧ _); refine ⟨by kernel_rfl, ?_⟩)
  first
    | refine CallK_pure e11 (c11 a b (Table.sok_of hsa) (Table.sok_of hsb)) rfl ?_
    | refine CCallK_plain e11 (c11 a b (Table.sok_of hsa) (Table.sok_of hsb)) rfl rfl ?_ (fun _ => by simp)
    | refine Or.inl (CCallK_plain e11 (c11 a b (Table.sok_of hsa) (Table.sok_of hsb)) rfl rfl ?_ (fun _ => by simp))
    | refine Or.inr ⟨by kernel_rfl, EffK_pure e11 (c11 a b (Table.sok_of hsa) (Table.sok_of hsb)) rfl ?_⟩
    | refine Or.inr (EffK_pure e11 (c11 a b (Table.sok_of hsa) (Table.sok_of hsb)) rfl ?_)
  simp (maxSteps := 2000000) only [go_sem, ↓reduceIte, reduceCtorEq, Nat.reduceAdd, Nat.reduceMul, Nat.reduceSub, Nat.reduceLT, Nat.reduceLeDiff, Nat.reduceEqDiff, Int.reduceToNat, Int.reduceLT, Int.reduceLE, Int.reduceNeg, List.length_map]
  repeat ((with_reducible show _ = true ∧ _); refine ⟨by kernel_rfl, ?_⟩)
  first
    | refine CallK_pure e7 (c7 a hsa) rfl ?_
    | refine CCallK_plain e7 (c7 a hsa) rfl rfl ?_ (fun _ => by simp)
    | refine Or.inl (CCallK_plain e7 (c7 a hsa) rfl rfl ?_ (fun _ => by simp))
    | refine Or.inr ⟨by kernel_rfl, EffK_pure e7 (c7 a hsa) rfl ?_⟩
    | refine Or.inr (EffK_pure e7 (c7 a hsa) rfl ?_)
  simp (maxSteps := 2000000) only [go_sem, ↓reduceIte, reduceCtorEq, Nat.reduceAdd, Nat.reduceMul, Nat.reduceSub, Nat.reduceLT, Nat.reduceLeDiff, Nat.reduceEqDiff, Int.reduceToNat, Int.reduceLT, Int.reduceLE, Int.reduceNeg, List.length_map]
  repeat ((with_reducible show _ = true ∧ _); refine ⟨by kernel_rfl, ?_⟩)
  first
    | refine CallK_pure e9 (c9 a a hsa hsa) rfl ?_
    | refine CCallK_plain e9 (c9 a a hsa hsa) rfl rfl ?_ (fun _ => by simp)
    | refine Or.inl (CCallK_plain e9 (c9 a a hsa hsa) rfl rfl ?_ (fun _ => by simp))
    | refine Or.inr ⟨by kernel_rfl, EffK_pure e9 (c9 a a hsa hsa) rfl ?_⟩
    | refine Or.inr (EffK_pure e9 (c9 a a hsa hsa) rfl ?_)
  simp (maxSteps := 2000000) only [go_sem, ↓reduceIte, reduceCtorEq, Nat.reduceAdd, Nat.reduceMul, Nat.reduceSub, Nat.reduceLT, Nat.reduceLeDiff, Nat.reduceEqDiff, Int.reduceToNat, Int.reduceLT, Int.reduceLE, Int.reduceNeg, List.length_map]
  repeat ((with_reducible show _ = true ∧ _); refine ⟨by kernel_rfl, ?_⟩)
  first
    | refine CallK_pure e7 (c7 b hsb) rfl ?_
    | refine CCallK_plain e7 (c7 b hsb) rfl rfl ?_ (fun _ => by simp)
    | refine Or.inl (CCallK_plain e7 (c7 b hsb) rfl rfl ?_ (fun _ => by simp))
    | refine Or.inr ⟨by kernel_rfl, EffK_pure e7 (c7 b hsb) rfl ?_⟩
    | refine Or.inr (EffK_pure e7 (c7 b hsb) rfl ?_)
  simp (maxSteps := 2000000) only [go_sem, ↓reduceIte, reduceCtorEq, Nat.reduceAdd, Nat.reduceMul, Nat.reduceSub, Nat.reduceLT, Nat.reduceLeDiff, Nat.reduceEqDiff, Int.reduceToNat, Int.reduceLT, Int.reduceLE, Int.reduceNeg, List.length_map]
  repeat ((with_reducible show _ = true ∧ _); refine ⟨by kernel_rfl, ?_⟩)
  first
    | refine CallK_pure e9 (c9 b b hsb hsb) rfl ?_
    | refine CCallK_plain e9 (c9 b b hsb hsb) rfl rfl ?_ (fun _ => by simp)
    | refine Or.inl (CCallK_plain e9 (c9 b b hsb hsb) rfl rfl ?_ (fun _ => by simp))
    | refine Or.inr ⟨by kernel_rfl, EffK_pure e9 (c9 b b hsb hsb) rfl ?_⟩
    | refine Or.inr (EffK_pure e9 (c9 b b hsb hsb) rfl ?_)
  simp (maxSteps := 2000000) only [go_sem, ↓reduceIte, reduceCtorEq, Nat.reduceAdd, Nat.reduceMul, Nat.reduceSub, Nat.reduceLT, Nat.reduceLeDiff, Nat.reduceEqDiff, Int.reduceToNat, Int.reduceLT, Int.reduceLE, Int.reduceNeg, List.length_map]
  repeat ((with_reducible show _ = true ∧ _); refine ⟨by kernel_rfl, ?_⟩)
  refine Fin.nt Tryz.results4 [] ?_ ?_ ?_ <;> try trivial
theorem law (dss : List (List D)) (h : WTAll Tryz.prog 8 Tryz.f4.params.toList dss) : Ctr Tryz.prog 4 (argAVs Tryz.prog Tryz.f4.params.toList dss) [] (.one (.dat (.bool true))) [] := by
  rw [Tryz.params4] at *
  simp only [WTAll, List.toList_toArray] at h
  obtain ⟨_, _, rfl, h0, ⟨_, _, rfl, h1, rfl⟩⟩ := h
  obtain ⟨x0, rfl, w0, k0⟩ := decTable _ _ h0
  obtain ⟨x1, rfl, w1, k1⟩ := decTable _ _ h1
  simp only [argAVs, argAV, List.toList_toArray, Tryz.underlying41, List.headD_cons]
  exact c4 x0 k0 x1 k1

theorem own : ownKnob Tryz.prog.godebug = none := by kernel_rfl

set_option maxRecDepth 100000 in
theorem lifted (os : Os) (started : os.Started) (H : Type) (enc : TypeId × Value → H) :
    ReturnsInHanded {} Tryz.checked os 4 .any (Rows.fnExactSameTableSpec.pre6 enc Tryz.prog Tryz.f4 Rows.fnExactSameTableRow.domain false) (Rows.fnExactSameTableSpec.post enc Tryz.prog Tryz.f4 false true false false) := by
  refine returnsInHanded_of_change (C := Tryz.checked) own started (by kernel_rfl) Tryz.func4
    (ChangeSpec.witness6 (enc := enc) (C := Tryz.checked) false ⟨#[], #[.agg #[.slice none 0 0, .slice none 0 0, .slice none 0 0, .slice none 0 0, .int .i64 0, .slice none 0 0, .slice none 0 0, .slice none 0 0, .slice none 0 0, .slice none 0 0, .slice none 0 0, .slice none 0 0, .int .i64 0], .agg #[.slice none 0 0, .slice none 0 0, .slice none 0 0, .slice none 0 0, .int .i64 0, .slice none 0 0, .slice none 0 0, .slice none 0 0, .slice none 0 0, .slice none 0 0, .slice none 0 0, .slice none 0 0, .int .i64 0]], []⟩ 8 (by kernel_rfl) (by kernel_rfl) (by kernel_rfl) (by kernel_rfl)) ?_
  intro W base args ds gs before hval0 hW hcnd _
  have hW' := hW
  obtain ⟨p, q, hA0, hV, rfl, hfz, hnd⟩ := hW'
  have hA : DataW.TrodAll enc Tryz.prog W 0 (fun _ => true) true Tryz.f4.params.toList args.toList ds p := hA0
  obtain ⟨dss, h1, h2⟩ := args_rep (n := 8) (by kernel_rfl) (fun j t v hj hv => hval0 j t v (by simpa using hj) (by simpa using hv)) hA
  have hs : Rows.fnExactSameTableSpec.fn H (ds ++ gs) = { results := [.lit (.bool true)], args := ds, vars := [] } := by
    obtain ⟨rfl, rfl⟩ := trodVars_none hV
    rw [Tryz.params4] at hA
    obtain ⟨v0, vs0, d0, ds0, p0, q0, _, rfl, _, _, r0⟩ := trodAll_cons hA
    obtain ⟨v1, vs1, d1, ds1, p1, q1, _, rfl, _, _, r1⟩ := trodAll_cons r0
    obtain ⟨_, rfl, _⟩ := trodAll_nil r1
    rfl
  have hc := law_calls (law dss h1) h2
  rw [Array.toArray_toList] at hc
  refine hc.mono fun e W' ⟨he, hb⟩ => ?_
  subst he
  exact ⟨_, rfl, law_post (by kernel_rfl) (by kernel_rfl) rfl hW hs rfl Tryz.underlying4 hb⟩

theorem over : Rows.fnExactSameTableRow.holds Tryz.pinned (OpenSpec.ofChange Rows.fnExactSameTableSpec) :=
  OpenClaim.holds_of_wide 4 Tryz.f4 rfl rfl rfl rfl rfl rfl rfl ⟨rfl, rfl, rfl, rfl, rfl⟩ rfl rfl rfl rfl rfl (by kernel_rfl) Tryz.func4 (by kernel_rfl)
    (of_decide_eq_true (by kernel_rfl)) (by unfold Func.isWrapper; first | (rw [if_pos (by decide +kernel)]; kernel_rfl) | (rw [if_neg (by decide +kernel)]; exact ⟨rfl, rfl⟩))
    (fun os started H enc _ => lifted os started H enc)

theorem proved : Rows.FnExactSameTableSaid :=
  over
end Go.Proofs.YtjfpaiencojehaaGreat.fnExactSameTable
