/- FnMaps: the program answers as the statement says, at every argument. -/
import Derived.Test.YtppbonemkipgeaaRows
import Derived.Test.YtppbonemkipgeaaATy
import Derived.Test.YtppbonemkipgeaaAbsTac
import Derived.Test.YtppbonemkipgeaaAbsData
import Derived.Test.YtppbonemkipgeaaWhole
import Derived.Test.YtppbonemkipgeaaABase
import Derived.Test.YtppbonemkipgeaaANum
import Derived.Test.YtppbonemkipgeaaAFam
import Derived.Test.YtppbonemkipgeaaAFam2
import Derived.Test.YtppbonemkipgeaaASl
import Derived.Test.YtppbonemkipgeaaAMap
import Derived.Test.YtppbonemkipgeaaADraws
import Derived.WalkKit
import Derived.ProofKit
import Derived.OpenShut
namespace Go.Proofs.Ytppbonemkipgeaa.fnMaps
open Go.Proofs.Try Go.Abs Go.Proofs.Ytppbonemkipgeaa.Ty Go.ChangeShapes Go.WideShapes Go.ChangeAt Go.RowKit Go.Proofs.Ytppbonemkipgeaa.Mod
set_option linter.unusedSimpArgs false
set_option linter.unusedVariables false
set_option maxHeartbeats 8000000
set_option maxRecDepth 100000
theorem c4 (b : List Int) (hl : b.length <= maxLen) (hbv : ∀ x ∈ b, 0 <= x /\ x <= 255) : Ctr prog 4 [.one (.dat (.sl 1 (b.map encB)))] [] (.one (.dat (.bool true))) [] := by
 have hmx : maxLen = 9223372036854775807 := rfl
 refine Ctr.bd mixed func4 rfl ?_
 refine evl ?_
 refine scs ?_
 refine ck e16 (c16 b hl) rfl ?_
 refine evl ?_
 refine scs ?_
 constructor <;> intro hq
 ·refine Fin.nt results4 [] ?_ ?_ ?_ <;> try trivial
 have hb : BytesL b := ⟨by have := of_decide_eq_false hq; omega, hbv⟩
 refine CallK_cell [] e17 (c17 b hb) rfl rfl ?_
 rintro r0 xs' ⟨l, k, v, hll, hk, hv, rfl, rfl⟩ -
 have hxl := mapPut_len l k v
 obtain ⟨X, hX⟩ : ∃ X, X = mapPut l k v := ⟨_, rfl⟩
 obtain ⟨Y, hY⟩ : ∃ Y, Y = mapDel X k := ⟨_, rfl⟩
 have hyl := mapDel_len X k
 rw [<- hX] at hxl
 rw [<- hY] at hyl
 have hg1 : mapGet k X = (v, true) := by rw [hX]; exact mapGet_put l k v
 have hg2 : mapGet k Y = (0, false) := by rw [hY]; exact mapGet_del k X
 have hg3 : ∀ i, i ≠ k -> mapGet i X = mapGet i l := fun i hi => by rw [hX]; exact mapGet_put_ne hi
 have hg4 : ∀ i, i ≠ k -> mapGet i Y = mapGet i l := fun i hi => by rw [hY, mapGet_del_ne hi]; exact hg3 i hi
 have ho1 : mapOk l = true -> mapOk X = true := fun h => by rw [hX]; exact mapOk_put h (by omega) (by omega)
 have ho2 : mapOk l = true -> mapOk Y = true := fun h => by rw [hY]; exact mapOk_del (ho1 h) k
 have hcp := c18 l (by omega) k v
 have hcd := c19 X (by omega) k
 have hc1 := c20 X (by omega) k
 have hc2 := c20 Y (by omega) k
 rw [<- hX] at hcp
 rw [<- hY] at hcd
 rw [hg1] at hc1
 rw [hg2] at hc2
 clear hX hY hg1 hg2
 refine evl ?_
 refine scs ?_
 refine ck e18 (hcp) rfl ?_
 refine evl ?_
 refine scs ?_
 refine ck e19 (hcd) rfl ?_
 refine evl ?_
 refine scs ?_
 refine ck e20 (hc1) rfl ?_
 refine evl ?_
 refine scs ?_
 refine ck e20 (hc2) rfl ?_
 have hvv : (v != v) = false := by simp
 simp (maxSteps := 2000000) only [go_sem, seval, hvv]
 refine scs ?_
 refine LoopK_intro (fun zn zs => ∃ i : Nat, i <= 10 /\ zn = 10 - i /\ zs = mkSt [(12, .one (.dat (.int .i64 i))), (3, .one (.own 0)), (4, .one (.dat (.int .i64 k))), (5, .one (.dat (.int .i64 v))), (6, .one (.own 1)), (7, .one (.own 2)), (0, .one (.dat (.sl 1 (b.map encB))))] [.vec 2 true (l.map encKV), .vec 2 true (X.map encKV), .vec 2 true (Y.map encKV)]) (10) _
  (Ent.wk [0, 1, 2]) ⟨0, by omega, by omega, rfl⟩ ?_
 rintro zn zs ⟨i, hi, rfl, rfl⟩ K hK
 rcases Nat.lt_or_ge i (10) with hlt | hge
 ·have hdi : decide ((i : Int) < ((10 : Nat) : Int)) = true := decide_eq_true (by omega)
  have hw := wrap_succ hlt (show 10 <= maxLen by decide)
  have hd3 : decide ((i : Int) < 10) = true := decide_eq_true (by omega)
  have ha := c21 l (by omega) (i : Int)
  have hb1 := c20 X (by omega) (i : Int)
  have hc3 := c20 Y (by omega) (i : Int)
  rcases Decidable.em ((i : Int) = k) with hik | hik
  ·have hne : ((i : Int) != k) = false := by simp [hik]
   refine sv4 ?_
   refine scs ?_
   refine ck e21 (ha) rfl ?_
   refine evl ?_
   refine scs ?_
   refine ck e20 (hb1) rfl ?_
   refine evl ?_
   refine scs ?_
   refine ck e20 (hc3) rfl ?_
   simp (maxSteps := 2000000) only [go_sem, seval, hne, hw]
   refine scs ?_
   (apply hK
    exact ⟨10 - (i + 1), _, by omega, Ent.wk [0, 1, 2], i + 1, by omega, rfl, rfl⟩)
  ·have hne : ((i : Int) != k) = true := by simp [hik]
   rw [hg3 _ hik] at hb1
   rw [hg4 _ hik] at hc3
   obtain ⟨p, hp⟩ : ∃ p, mapGet (i : Int) l = p := ⟨_, rfl⟩
   rw [hp] at ha hb1 hc3
   obtain ⟨p1, p2⟩ := p
   have h11 : (p1 != p1) = false := by simp
   have h22 : (p2 != p2) = false := by simp
   refine sv4 ?_
   refine scs ?_
   refine ck e21 (ha) rfl ?_
   refine evl ?_
   refine scs ?_
   refine ck e20 (hb1) rfl ?_
   refine evl ?_
   refine scs ?_
   refine ck e20 (hc3) rfl ?_
   simp (maxSteps := 2000000) only [go_sem, seval, hne, h11, h22, hw]
   refine scs ?_
   (apply hK
    exact ⟨10 - (i + 1), _, by omega, Ent.wk [0, 1, 2], i + 1, by omega, rfl, rfl⟩)
 ·have hge' : 10 = i := by omega
  subst hge'
  have hdi : decide (((10 : Nat) : Int) < ((10 : Nat) : Int)) = false := by simp
  have hd3 : decide (((10 : Nat) : Int) < 10) = false := rfl
  refine sv4 ?_
  apply hK
  refine evl ?_
  refine scs ?_
  refine ck e22 (c22 l (by omega)) rfl ?_
  refine evl ?_
  refine scs ?_
  refine ck e23 (c23 X (by omega)) rfl ?_
  refine evl ?_
  refine scs ?_
  refine ck e23 (c23 Y (by omega)) rfl ?_
  refine evl ?_
  refine scs ?_
  refine Fin.nt results4 [] ?_ ?_ ?_ <;> try trivial
  (refine rsl ?_; try exact .intro)
  revert ho1 ho2
  cases mapOk l <;> simp
  intro h1 h2
  simp [h1, h2]
theorem law (dss : List (List D)) (h : WTAll prog 8 f4.params.toList dss) : Ctr prog 4 (argAVs prog f4.params.toList dss) [] (.one (.dat (.bool true))) [] := by
 rw [params4] at *
 simp only [WTAll, List.toList_toArray] at h
 obtain ⟨_, _, rfl, h0, rfl⟩ := h
 obtain ⟨b, rfl, hl, hb⟩ := decBytes underlying33 underlying5 tc_5 h0
 simp only [argAVs, argAV, List.toList_toArray, underlying33, List.headD_cons]
 exact c4 b hl hb

theorem own : ownKnob prog.godebug = none := by kernel_rfl

set_option maxRecDepth 100000 in
theorem lifted (os : Os) (started : os.Started) (H : Type) (enc : TypeId × Value -> H) :
  ReturnsInHanded {} Try.checked os 4 .any (Rows.fnMapsSpec.pre6 enc prog f4 Rows.fnMapsRow.domain false) (Rows.fnMapsSpec.post enc prog f4 false true false false) := by
 refine returnsInHanded_of_change (C := Try.checked) own started (by kernel_rfl) func4
  (ChangeSpec.witness6 (enc := enc) (C := Try.checked) false ⟨#[], #[.slice none 0 0], []⟩ 8 (by kernel_rfl) (by kernel_rfl) (by kernel_rfl) (by kernel_rfl)) ?_
 intro W base args ds gs before hval0 hW hcnd _
 have hW' := hW
 obtain ⟨p, q, hA0, hV, rfl, hfz, hnd⟩ := hW'
 have hA : DataW.TrodAll enc prog W 0 (fun _ => true) true f4.params.toList args.toList ds p := hA0
 obtain ⟨dss, h1, h2⟩ := args_rep (n := 8) (by kernel_rfl) (fun j t v hj hv => hval0 j t v (by simpa using hj) (by simpa using hv)) hA
 have hs : Rows.fnMapsSpec.fn H (ds ++ gs) = { results := [.lit (.bool true)], args := ds, vars := [] } := by
  obtain ⟨rfl, rfl⟩ := trodVars_none hV
  rw [params4] at hA
  obtain ⟨v0, vs0, d0, ds0, p0, q0, _, rfl, _, _, r0⟩ := trodAll_cons hA
  obtain ⟨_, rfl, _⟩ := trodAll_nil r0
  rfl
 have hc := law_calls (law dss h1) h2
 rw [Array.toArray_toList] at hc
 refine hc.mono fun e W' ⟨he, hb⟩ => ?_
 subst he
 exact ⟨_, rfl, law_post (by kernel_rfl) (by kernel_rfl) rfl hW hs rfl underlying4 hb⟩

theorem closed : joinedFacts prog 4 f4 Rows.fnMapsSpec Rows.fnMapsRow = true := by
 unfold joinedFacts
 simp only [Bool.and_eq_true, Whole.laidOut, Whole.rowed, Whole.stops, Whole.knobs, Whole.keys, Whole.heard, Whole.enter, Whole.lifts, Whole.make, true_and, and_true]
 repeat' (refine And.intro ?_ ?_)
 all_goals (as_aux_lemma => kernel_rfl)

theorem over : Rows.fnMapsRow.holds Try.pinned (OpenSpec.ofChange Rows.fnMapsSpec) :=
 OpenClaim.holds_of_wide 4 f4 rfl rfl rfl rfl rfl rfl rfl ⟨rfl, rfl, rfl, rfl, rfl⟩ rfl rfl rfl rfl rfl (by kernel_rfl) func4 closed
  (of_decide_eq_true (by kernel_rfl)) (by unfold Func.isWrapper; first | (rw [if_pos (by decide +kernel)]; kernel_rfl) | (rw [if_neg (by decide +kernel)]; exact ⟨rfl, rfl⟩))
  (fun os started H enc _ => lifted os started H enc)

theorem proved : Rows.FnMapsSaid :=
 over
end Go.Proofs.Ytppbonemkipgeaa.fnMaps
