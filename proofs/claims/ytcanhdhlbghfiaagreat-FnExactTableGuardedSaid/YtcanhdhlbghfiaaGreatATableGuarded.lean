/- FnExactTableGuarded: the program answers as the statement says, at every argument. -/
import Derived.Test.YtcanhdhlbghfiaaGreatRows
import Derived.Test.YtcanhdhlbghfiaaGreatATy
import Derived.Test.YtcanhdhlbghfiaaGreatAbsTac
import Derived.Test.YtcanhdhlbghfiaaGreatAbsData
import Derived.Test.YtcanhdhlbghfiaaGreatWhole
import Derived.Test.YtcanhdhlbghfiaaGreatAFam2
import Derived.Test.YtcanhdhlbghfiaaGreatASok
import Derived.Test.YtcanhdhlbghfiaaGreatAFam3
import Derived.Test.YtcanhdhlbghfiaaGreatACare
import Derived.WalkKit
import Derived.ProofKit
import Derived.OpenShut
namespace Go.Proofs.YtcanhdhlbghfiaaGreat.fnExactTableGuarded
open Go.Abs Go.Proofs.YtcanhdhlbghfiaaGreat.Ty Go.ChangeShapes Go.WideShapes Go.ChangeAt Go.RowKit Go.Proofs.YtcanhdhlbghfiaaGreat.Mod
set_option linter.unusedSimpArgs false
set_option linter.unusedVariables false
set_option maxHeartbeats 8000000
set_option maxRecDepth 100000
theorem c7 (t : Table) (hkt : t.lok) : Ctr Tryz.prog 7 [.agg ((encTable t).map .dat)] [] (.one (.dat (.bool true))) [] := by
 simp only [encTable, List.map_cons, List.map_nil]
 refine Ctr.bd mixed Tryz.func7 rfl ?_
 simp (maxSteps := 2000000) only [go_sem, seval, List.length_map]
 repeat ((with_reducible show _ = true ∧ _); refine ⟨by kernel_rfl, ?_⟩)
 refine CallK_pure e13 (c13 t hkt 1048576 (by decide) (by decide)) rfl ?_
 simp (maxSteps := 2000000) only [go_sem, seval, List.length_map]
 repeat ((with_reducible show _ = true ∧ _); refine ⟨by kernel_rfl, ?_⟩)
 refine ⟨fun h => ?_, fun h => ?_⟩
 ·refine Fin.nt Tryz.results7 [] ?_ ?_ ?_ <;> try trivial
 obtain ⟨hst, hzt, hgt, hht⟩ := szL_le (by decide) h
 clear h
 repeat ((with_reducible show _ = true ∧ _); refine ⟨by kernel_rfl, ?_⟩)
 have hokt := Table.sok_of hst
 have hcnt := mcTable_le t
 have hmx : maxLen = 9223372036854775807 := rfl
 have hr := tguardedM_len t
 refine ck e15 (c15 t hst) rfl ?_
 simp (maxSteps := 2000000) only [go_sem, seval, List.length_map]
 repeat ((with_reducible show _ = true ∧ _); refine ⟨by kernel_rfl, ?_⟩)
 refine ck e28 (c28 t hst) rfl ?_
 simp (maxSteps := 2000000) only [go_sem, seval, List.length_map]
 repeat ((with_reducible show _ = true ∧ _); refine ⟨by kernel_rfl, ?_⟩)
 refine ck e15 (c15 t hst) rfl ?_
 simp (maxSteps := 2000000) only [go_sem, seval, List.length_map]
 repeat ((with_reducible show _ = true ∧ _); refine ⟨by kernel_rfl, ?_⟩)
 refine ck e29 (c29 t hst) rfl ?_
 simp (maxSteps := 2000000) only [go_sem, seval, List.length_map]
 repeat ((with_reducible show _ = true ∧ _); refine ⟨by kernel_rfl, ?_⟩)
 refine ck e30 (c30 (tguardedM t) (tguardedM t) (by omega) (by omega)) rfl ?_
 simp (maxSteps := 2000000) only [go_sem, seval, List.length_map]
 repeat ((with_reducible show _ = true ∧ _); refine ⟨by kernel_rfl, ?_⟩)
 refine ck e15 (c15 t hst) rfl ?_
 simp (maxSteps := 2000000) only [go_sem, seval, List.length_map]
 repeat ((with_reducible show _ = true ∧ _); refine ⟨by kernel_rfl, ?_⟩)
 refine ck e17 (c17 t t hst hst) rfl ?_
 simp (maxSteps := 2000000) only [go_sem, seval, List.length_map]
 repeat ((with_reducible show _ = true ∧ _); refine ⟨by kernel_rfl, ?_⟩)
 refine CallK_os [13, 14, 15, 16, 17, 18, 19, 20, 21, 22, 23] e25 (by simp [osOk, St.obj, find]) (c25 t hokt 1 (by omega) (by omega)) rfl ?_
 simp (maxSteps := 2000000) only [go_sem, seval, List.length_map]
 repeat ((with_reducible show _ = true ∧ _); refine ⟨by kernel_rfl, ?_⟩)
 have hkk : decide ((1 + (mcTable t : Int)) < 0) = false := by simp only [decide_eq_false_iff_not]; omega
 simp (maxSteps := 2000000) only [go_sem, seval, List.length_map, hkk]
 repeat ((with_reducible show _ = true ∧ _); refine ⟨by kernel_rfl, ?_⟩)
 refine ck e30 (c30 (tguardedM t) (tguardedM t) (by omega) (by omega)) rfl ?_
 simp (maxSteps := 2000000) only [go_sem, seval, List.length_map, hkk]
 repeat ((with_reducible show _ = true ∧ _); refine ⟨by kernel_rfl, ?_⟩)
 refine CallK_os [25] e31 (by simp [osOk, St.obj, find]) (c31 (tguardedM t) 1 (by omega) (by omega)) rfl ?_
 simp (maxSteps := 2000000) only [go_sem, seval, List.length_map, hkk]
 repeat ((with_reducible show _ = true ∧ _); refine ⟨by kernel_rfl, ?_⟩)
 refine ck e32 (c32 ((tguardedM t)).length 1 (by omega) (by omega)) rfl ?_
 simp (maxSteps := 2000000) only [go_sem, seval, List.length_map, hkk]
 repeat ((with_reducible show _ = true ∧ _); refine ⟨by kernel_rfl, ?_⟩)
 have hq1 : decide ((1 + 1 * (((tguardedM t)).length : Int)) < 0) = false := by simp only [decide_eq_false_iff_not]; omega
 simp (maxSteps := 2000000) only [go_sem, seval, List.length_map, hkk, hq1]
 repeat ((with_reducible show _ = true ∧ _); refine ⟨by kernel_rfl, ?_⟩)
 refine ck e15 (c15 t hst) rfl ?_
 simp (maxSteps := 2000000) only [go_sem, seval, List.length_map, hkk, hq1]
 repeat ((with_reducible show _ = true ∧ _); refine ⟨by kernel_rfl, ?_⟩)
 refine ck e29 (c29 t hst) rfl ?_
 simp (maxSteps := 2000000) only [go_sem, seval, List.length_map, hkk, hq1]
 repeat ((with_reducible show _ = true ∧ _); refine ⟨by kernel_rfl, ?_⟩)
 refine ck e30 (c30 (tguardedM t) (tguardedM t) (by omega) (by omega)) rfl ?_
 simp (maxSteps := 2000000) only [go_sem, seval, List.length_map, hkk, hq1]
 repeat ((with_reducible show _ = true ∧ _); refine ⟨by kernel_rfl, ?_⟩)
 refine ck e32 (c32 ((tguardedM t)).length 1 (by omega) (by omega)) rfl ?_
 simp (maxSteps := 2000000) only [go_sem, seval, List.length_map, hkk, hq1]
 repeat ((with_reducible show _ = true ∧ _); refine ⟨by kernel_rfl, ?_⟩)
 refine Fin.nt Tryz.results7 [] ?_ ?_ ?_ <;> try trivial
theorem law (dss : List (List D)) (h : WTAll Tryz.prog 8 Tryz.f7.params.toList dss) : Ctr Tryz.prog 7 (argAVs Tryz.prog Tryz.f7.params.toList dss) [] (.one (.dat (.bool true))) [] := by
 rw [Tryz.params7] at *
 simp only [WTAll, List.toList_toArray] at h
 obtain ⟨_, _, rfl, h0, rfl⟩ := h
 obtain ⟨x0, rfl, w0, k0⟩ := decTable _ _ h0
 simp only [argAVs, argAV, List.toList_toArray, Tryz.underlying41, List.headD_cons]
 exact c7 x0 k0

theorem own : ownKnob Tryz.prog.godebug = none := by kernel_rfl

set_option maxRecDepth 100000 in
theorem lifted (os : Os) (started : os.Started) (H : Type) (enc : TypeId × Value → H) :
  ReturnsInHanded {} Tryz.checked os 7 .any (Rows.fnExactTableGuardedSpec.pre6 enc Tryz.prog Tryz.f7 Rows.fnExactTableGuardedRow.domain false) (Rows.fnExactTableGuardedSpec.post enc Tryz.prog Tryz.f7 false true false false) := by
 refine returnsInHanded_of_change (C := Tryz.checked) own started (by kernel_rfl) Tryz.func7
  (ChangeSpec.witness6 (enc := enc) (C := Tryz.checked) false ⟨#[], #[.agg #[.slice none 0 0, .slice none 0 0, .slice none 0 0, .slice none 0 0, .int .i64 0, .slice none 0 0, .slice none 0 0, .slice none 0 0, .slice none 0 0, .slice none 0 0, .slice none 0 0, .slice none 0 0, .int .i64 0]], []⟩ 8 (by kernel_rfl) (by kernel_rfl) (by kernel_rfl) (by kernel_rfl)) ?_
 intro W base args ds gs before hval0 hW hcnd _
 have hW' := hW
 obtain ⟨p, q, hA0, hV, rfl, hfz, hnd⟩ := hW'
 have hA : DataW.TrodAll enc Tryz.prog W 0 (fun _ => true) true Tryz.f7.params.toList args.toList ds p := hA0
 obtain ⟨dss, h1, h2⟩ := args_rep (n := 8) (by kernel_rfl) (fun j t v hj hv => hval0 j t v (by simpa using hj) (by simpa using hv)) hA
 have hs : Rows.fnExactTableGuardedSpec.fn H (ds ++ gs) = { results := [.lit (.bool true)], args := ds, vars := [] } := by
  obtain ⟨rfl, rfl⟩ := trodVars_none hV
  rw [Tryz.params7] at hA
  obtain ⟨v0, vs0, d0, ds0, p0, q0, _, rfl, _, _, r0⟩ := trodAll_cons hA
  obtain ⟨_, rfl, _⟩ := trodAll_nil r0
  rfl
 have hc := law_calls (law dss h1) h2
 rw [Array.toArray_toList] at hc
 refine hc.mono fun e W' ⟨he, hb⟩ => ?_
 subst he
 exact ⟨_, rfl, law_post (by kernel_rfl) (by kernel_rfl) rfl hW hs rfl Tryz.underlying4 hb⟩

theorem closed : joinedFacts Tryz.prog 7 Tryz.f7 Rows.fnExactTableGuardedSpec Rows.fnExactTableGuardedRow = true := by
 unfold joinedFacts
 simp only [Bool.and_eq_true, Whole.laidOut, Whole.rowed, Whole.stops, Whole.knobs, Whole.keys, Whole.heard, Whole.enter, Whole.lifts, Whole.make, true_and, and_true]
 repeat' (refine And.intro ?_ ?_)
 all_goals (as_aux_lemma => kernel_rfl)

theorem over : Rows.fnExactTableGuardedRow.holds Tryz.pinned (OpenSpec.ofChange Rows.fnExactTableGuardedSpec) :=
 OpenClaim.holds_of_wide 7 Tryz.f7 rfl rfl rfl rfl rfl rfl rfl ⟨rfl, rfl, rfl, rfl, rfl⟩ rfl rfl rfl rfl rfl (by kernel_rfl) Tryz.func7 closed
  (of_decide_eq_true (by kernel_rfl)) (by unfold Func.isWrapper; first | (rw [if_pos (by decide +kernel)]; kernel_rfl) | (rw [if_neg (by decide +kernel)]; exact ⟨rfl, rfl⟩))
  (fun os started H enc _ => lifted os started H enc)

theorem proved : Rows.FnExactTableGuardedSaid :=
 over
end Go.Proofs.YtcanhdhlbghfiaaGreat.fnExactTableGuarded
