/- FnExactTouched: the program answers as the statement says, at every argument. -/
import Derived.Test.YtppbonemkipgeaaRows
import Derived.Test.YtppbonemkipgeaaCTy
import Derived.Test.YtppbonemkipgeaaAbsTac
import Derived.Test.YtppbonemkipgeaaAbsData
import Derived.Test.YtppbonemkipgeaaWhole
import Derived.Test.YtppbonemkipgeaaCBase
import Derived.Test.YtppbonemkipgeaaCNum
import Derived.Test.YtppbonemkipgeaaCFam
import Derived.Test.YtppbonemkipgeaaCFam2
import Derived.Test.YtppbonemkipgeaaCSok
import Derived.Test.YtppbonemkipgeaaCFam3
import Derived.Test.YtppbonemkipgeaaCValid
import Derived.Test.YtppbonemkipgeaaCSorts
import Derived.Test.YtppbonemkipgeaaCTouchM
import Derived.WalkKit
import Derived.ProofKit
import Derived.OpenShut
namespace Go.Proofs.Ytppbonemkipgeaa.fnExactTouched
open Go.Proofs.Try Go.Abs Go.Proofs.Ytppbonemkipgeaa.Ty Go.ChangeShapes Go.WideShapes Go.ChangeAt Go.RowKit Go.Proofs.Ytppbonemkipgeaa.Mod
set_option linter.unusedSimpArgs false
set_option linter.unusedVariables false
set_option maxHeartbeats 8000000
set_option maxRecDepth 100000
theorem c3 (l : List Write) (hll : l.length <= maxLen) : Ctr prog 3 [.one (.dat (.sl 3 (l.map encWrite)))] [] (.one (.dat (.bool true))) [] := by
 refine Ctr.bd mixed func3 rfl ?_
 refine sv2 ?_
 repeat ((with_reducible show _ = true /\ _); refine ⟨by kernel_rfl, ?_⟩)
 refine CallK_pure e7 (c7 (l.map encWrite) 1048576 (by decide) (by decide) (by simpa using hll)) rfl ?_
 refine sv2 ?_
 repeat ((with_reducible show _ = true /\ _); refine ⟨by kernel_rfl, ?_⟩)
 constructor <;> intro h
 ·refine Fin.nt results3 [] ?_ ?_ ?_ <;> try trivial
 obtain ⟨hsl, hzl, hgl, hhl⟩ := szL_le (by decide) h
 clear h
 repeat ((with_reducible show _ = true /\ _); refine ⟨by kernel_rfl, ?_⟩)
 have hmx : maxLen = 9223372036854775807 := rfl
 have hr := touchedM_len l
 refine ck e9 (c9 l hsl) rfl ?_
 refine sv2 ?_
 repeat ((with_reducible show _ = true /\ _); refine ⟨by kernel_rfl, ?_⟩)
 refine ck e8 (c8 l (by omega)) rfl ?_
 refine sv2 ?_
 repeat ((with_reducible show _ = true /\ _); refine ⟨by kernel_rfl, ?_⟩)
 refine ck e9 (c9 l hsl) rfl ?_
 refine sv2 ?_
 repeat ((with_reducible show _ = true /\ _); refine ⟨by kernel_rfl, ?_⟩)
 refine ck e10 (c10 l (by omega)) rfl ?_
 refine sv2 ?_
 repeat ((with_reducible show _ = true /\ _); refine ⟨by kernel_rfl, ?_⟩)
 refine ck e11 (c11 (touchedM l) (touchedM l) (by omega) (by omega)) rfl ?_
 refine sv2 ?_
 repeat ((with_reducible show _ = true /\ _); refine ⟨by kernel_rfl, ?_⟩)
 refine ck e9 (c9 l hsl) rfl ?_
 refine sv2 ?_
 repeat ((with_reducible show _ = true /\ _); refine ⟨by kernel_rfl, ?_⟩)
 refine ck e12 (c12 l l hll hll) rfl ?_
 refine sv2 ?_
 repeat ((with_reducible show _ = true /\ _); refine ⟨by kernel_rfl, ?_⟩)
 refine CallK_os [2] e13 (by simp [osOk, St.obj, find]) (c13_v l 1 (by omega) (by omega)) rfl ?_
 refine sv2 ?_
 repeat ((with_reducible show _ = true /\ _); refine ⟨by kernel_rfl, ?_⟩)
 have hkk : decide ((1 + 3 * (l.length : Int)) < 0) = false := by simp only [decide_eq_false_iff_not]; omega
 refine sv3 ?_
 repeat ((with_reducible show _ = true /\ _); refine ⟨by kernel_rfl, ?_⟩)
 refine ck e11 (c11 (touchedM l) (touchedM l) (by omega) (by omega)) rfl ?_
 refine sv3 ?_
 repeat ((with_reducible show _ = true /\ _); refine ⟨by kernel_rfl, ?_⟩)
 refine CallK_os [3] e14 (by simp [osOk, St.obj, find]) (c14 (touchedM l) 1 (by omega) (by omega)) rfl ?_
 refine sv3 ?_
 repeat ((with_reducible show _ = true /\ _); refine ⟨by kernel_rfl, ?_⟩)
 refine ck e15 (c15 ((touchedM l)).length 1 (by omega) (by omega)) rfl ?_
 refine sv3 ?_
 repeat ((with_reducible show _ = true /\ _); refine ⟨by kernel_rfl, ?_⟩)
 have hq1 : decide ((1 + 1 * (((touchedM l)).length : Int)) < 0) = false := by simp only [decide_eq_false_iff_not]; omega
 refine sv4 ?_
 repeat ((with_reducible show _ = true /\ _); refine ⟨by kernel_rfl, ?_⟩)
 refine ck e9 (c9 l hsl) rfl ?_
 refine sv4 ?_
 repeat ((with_reducible show _ = true /\ _); refine ⟨by kernel_rfl, ?_⟩)
 refine ck e10 (c10 l (by omega)) rfl ?_
 refine sv4 ?_
 repeat ((with_reducible show _ = true /\ _); refine ⟨by kernel_rfl, ?_⟩)
 refine ck e11 (c11 (touchedM l) (touchedM l) (by omega) (by omega)) rfl ?_
 refine sv4 ?_
 repeat ((with_reducible show _ = true /\ _); refine ⟨by kernel_rfl, ?_⟩)
 refine ck e15 (c15 ((touchedM l)).length 1 (by omega) (by omega)) rfl ?_
 refine sv4 ?_
 repeat ((with_reducible show _ = true /\ _); refine ⟨by kernel_rfl, ?_⟩)
 refine Fin.nt results3 [] ?_ ?_ ?_ <;> try trivial
theorem law (dss : List (List D)) (h : WTAll prog 8 f3.params.toList dss) : Ctr prog 3 (argAVs prog f3.params.toList dss) [] (.one (.dat (.bool true))) [] := by
 rw [params3] at *
 simp only [WTAll, List.toList_toArray] at h
 obtain ⟨_, _, rfl, h0, rfl⟩ := h
 obtain ⟨x0, rfl, c0, w0⟩ := decSl (enc := encWrite) (q := fun x => x.wf /\ x.lok) underlying22 tc_67 decWrite h0
 simp only [argAVs, argAV, List.toList_toArray, underlying22, List.headD_cons]
 exact c3 x0 c0

theorem own : ownKnob prog.godebug = none := by kernel_rfl

set_option maxRecDepth 100000 in
theorem lifted (os : Os) (started : os.Started) (H : Type) (enc : TypeId × Value -> H) :
  ReturnsInHanded {} Try.checked os 3 .any (Rows.fnExactTouchedSpec.pre6 enc prog f3 Rows.fnExactTouchedRow.domain false) (Rows.fnExactTouchedSpec.post enc prog f3 false true false false) := by
 refine returnsInHanded_of_change (C := Try.checked) own started (by kernel_rfl) func3
  (ChangeSpec.witness6 (enc := enc) (C := Try.checked) false ⟨#[], #[.slice none 0 0], []⟩ 8 (by kernel_rfl) (by kernel_rfl) (by kernel_rfl) (by kernel_rfl)) ?_
 intro W base args ds gs before hval0 hW hcnd _
 have hW' := hW
 obtain ⟨p, q, hA0, hV, rfl, hfz, hnd⟩ := hW'
 have hA : DataW.TrodAll enc prog W 0 (fun _ => true) true f3.params.toList args.toList ds p := hA0
 obtain ⟨dss, h1, h2⟩ := args_rep (n := 8) (by kernel_rfl) (fun j t v hj hv => hval0 j t v (by simpa using hj) (by simpa using hv)) hA
 have hs : Rows.fnExactTouchedSpec.fn H (ds ++ gs) = { results := [.lit (.bool true)], args := ds, vars := [] } := by
  obtain ⟨rfl, rfl⟩ := trodVars_none hV
  rw [params3] at hA
  obtain ⟨v0, vs0, d0, ds0, p0, q0, _, rfl, _, _, r0⟩ := trodAll_cons hA
  obtain ⟨_, rfl, _⟩ := trodAll_nil r0
  rfl
 have hc := law_calls (law dss h1) h2
 rw [Array.toArray_toList] at hc
 refine hc.mono fun e W' ⟨he, hb⟩ => ?_
 subst he
 exact ⟨_, rfl, law_post (by kernel_rfl) (by kernel_rfl) rfl hW hs rfl underlying4 hb⟩

theorem closed : joinedFacts prog 3 f3 Rows.fnExactTouchedSpec Rows.fnExactTouchedRow = true := by
 unfold joinedFacts
 simp only [Bool.and_eq_true, Whole.laidOut, Whole.rowed, Whole.stops, Whole.knobs, Whole.keys, Whole.heard, Whole.enter, Whole.lifts, Whole.make, true_and, and_true]
 repeat' (refine And.intro ?_ ?_)
 all_goals (as_aux_lemma => kernel_rfl)

theorem over : Rows.fnExactTouchedRow.holds Try.pinned (OpenSpec.ofChange Rows.fnExactTouchedSpec) :=
 OpenClaim.holds_of_wide 3 f3 rfl rfl rfl rfl rfl rfl rfl ⟨rfl, rfl, rfl, rfl, rfl⟩ rfl rfl rfl rfl rfl (by kernel_rfl) func3 closed
  (of_decide_eq_true (by kernel_rfl)) (by unfold Func.isWrapper; first | (rw [if_pos (by decide +kernel)]; kernel_rfl) | (rw [if_neg (by decide +kernel)]; exact ⟨rfl, rfl⟩))
  (fun os started H enc _ => lifted os started H enc)

theorem proved : Rows.FnExactTouchedSaid :=
 over
end Go.Proofs.Ytppbonemkipgeaa.fnExactTouched
