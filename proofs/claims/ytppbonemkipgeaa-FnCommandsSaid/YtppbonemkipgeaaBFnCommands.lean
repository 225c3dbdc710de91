/- FnCommands: the program answers as the statement says, at every argument. -/
import Derived.Test.YtppbonemkipgeaaRows
import Derived.Test.YtppbonemkipgeaaBTy
import Derived.Test.YtppbonemkipgeaaAbsTac
import Derived.Test.YtppbonemkipgeaaAbsData
import Derived.Test.YtppbonemkipgeaaWhole
import Derived.Test.YtppbonemkipgeaaBBase
import Derived.Test.YtppbonemkipgeaaBNum
import Derived.Test.YtppbonemkipgeaaBFam
import Derived.Test.YtppbonemkipgeaaBFam2
import Derived.Test.YtppbonemkipgeaaBSl
import Derived.Test.YtppbonemkipgeaaBMap
import Derived.Test.YtppbonemkipgeaaBDraws
import Derived.WalkKit
import Derived.ProofKit
import Derived.OpenShut
namespace Go.Proofs.Ytppbonemkipgeaa.fnCommands
open Go.Proofs.Try Go.Abs Go.Proofs.Ytppbonemkipgeaa.Ty Go.ChangeShapes Go.WideShapes Go.ChangeAt Go.RowKit Go.Proofs.Ytppbonemkipgeaa.Mod
set_option linter.unusedSimpArgs false
set_option linter.unusedVariables false
set_option maxHeartbeats 8000000
set_option maxRecDepth 100000
theorem c5 (b : List Int) (hl : b.length <= maxLen) (hbv : ∀ x ∈ b, 0 <= x /\ x <= 255) : Ctr prog 5 [.one (.dat (.sl 1 (b.map encB)))] [] (.one (.dat (.bool true))) [] := by
 have hmx : maxLen = 9223372036854775807 := rfl
 refine Ctr.bd mixed func5 rfl ?_
 refine evl ?_
 refine scs ?_
 refine ck e16 (c16 b hl) rfl ?_
 refine evl ?_
 refine scs ?_
 constructor <;> intro hq
 ·refine Fin.nt results5 [] ?_ ?_ ?_ <;> try trivial
 have hb : BytesL b := ⟨by have := of_decide_eq_false hq; omega, hbv⟩
 refine CallK_cell [] e24 (c24 b hb) rfl rfl ?_
 rintro r0 xs' ⟨l, cs, hll, hcl, rfl, rfl⟩ -
 obtain ⟨n, hn⟩ : ∃ n, n = cutM b 0 cs.length := ⟨_, rfl⟩
 have hnl := (cutM_le hb (Int.le_refl 0) cs.length).1
 rw [<- hn] at hnl
 have hcA := c25 l (by omega) cs (by omega)
 have hcB := c25 l (by omega) (cs.take n) (by simp; omega)
 have hL1 := (cmdsGo_len (cs.take n) l [])
 have hL0 := (cmdsGo_len cs l [])
 have hcC := c25 (cmdsDo l (cs.take n)).1 (by have := hL1.1; unfold cmdsDo; simp at this; omega) (cs.drop n) (by simp; omega)
 have hL2 := (cmdsGo_len (cs.drop n) (cmdsDo l (cs.take n)).1 [])
 have hcD := c28 l (by omega) cs (by omega)
 have hcut := cmdsDo_cut l cs n
 have hok := mapOk_cmdsGo cs (l := l) []
 have hk := c26 b hb 0 (by decide) (by decide) cs.length (by omega)
 rw [<- hn] at hk
 rw [List.map_take] at hcB
 rw [show (cs.drop n).map encCmd = ((cs.map encCmd).drop n).take (cs.length - n) by rw [List.map_drop, List.take_of_length_le (by simp)]] at hcC
 change _ <= _ /\ (cmdsDo l cs).2.length = _ at hL0
 change _ <= _ /\ (cmdsDo l (cs.take n)).2.length = _ at hL1
 change _ <= _ /\ (cmdsDo (cmdsDo l (cs.take n)).1 (cs.drop n)).2.length = _ at hL2
 change (cmdsDo l (cs.take n)).1.length <= _ /\ _ at hL1
 change (cmdsDo l cs).1.length <= _ /\ _ at hL0
 change (cmdsDo (cmdsDo l (cs.take n)).1 (cs.drop n)).1.length <= _ /\ _ at hL2
 change mapOk l = true -> mapOk (cmdsDo l cs).1 = true at hok
 generalize cmdsDo l cs = A at *
 generalize cmdsDo l (cs.take n) = B at *
 generalize cmdsDo B.1 (cs.drop n) = C at *
 obtain ⟨A1, A2⟩ := A
 obtain ⟨B1, B2⟩ := B
 obtain ⟨C1, C2⟩ := C
 obtain ⟨h1, h2⟩ := hcut
 simp only at h1 h2 hL0 hL1 hL2 hok hcA hcB hcC hcD
 subst h1
 subst h2
 simp only [List.length_nil, Nat.zero_add, List.length_take, List.length_drop] at hL0 hL1 hL2
 have hBl : B2.length = n := by omega
 refine evl ?_
 refine scs ?_
 refine ck e25 (hcA) rfl ?_
 refine sv5 ?_
 refine scs ?_
 refine ck e26 (hk) rfl ?_
 refine sv5 ?_
 refine scs ?_
 refine ck e25 (hcB) rfl ?_
 refine sv5 ?_
 refine scs ?_
 refine ck e25 (hcC) rfl ?_
 have hSS := c27 A1 A1 (by omega) (by omega)
 rw [show decide (A1 = A1) = true by simp] at hSS
 have hlen : (B2 ++ C2).length = cs.length := by rw [List.length_append]; omega
 have hw0 : IntKind.i64.wrap ((B2.length : Int) + (C2.length : Int)) = (cs.length : Int) := by rw [wrap_id (by omega) (by omega)]; omega
 have hs0 : (((cs.length : Nat) : Int) != (cs.length : Int)) = false := by simp
 simp (maxSteps := 2000000) only [go_sem, seval, hlen, hw0, hs0]
 refine scs ?_
 refine ck e27 (hSS) rfl ?_
 simp (maxSteps := 2000000) only [go_sem, seval, hlen]
 refine scs ?_
 refine LoopK_intro (fun zn zs => ∃ i : Nat, i <= cs.length /\ zn = cs.length - i /\ zs = mkSt [(12, .one (.dat (.int .i64 i))), (3, .one (.own 0)), (4, .one (.own 1)), (5, .one (.own 2)), (6, .one (.own 3)), (9, .one (.own 5)), (11, .one (.own 7)), (0, .one (.dat (.sl 1 (b.map encB))))] [.vec 2 true (l.map encKV), .vec 3 true (cs.map encCmd), .vec 2 true (A1.map encKV), .vec 2 true ((B2 ++ C2).map encRes), .vec 2 true (B1.map encKV), .vec 2 true (B2.map encRes), .vec 2 true (A1.map encKV), .vec 2 true (C2.map encRes)]) (cs.length) _
  (Ent.wk [0, 1, 2, 3, 4, 5, 6, 7]) ⟨0, by omega, by omega, rfl⟩ ?_
 rintro zn zs ⟨i, hi, rfl, rfl⟩ K hK
 rcases Nat.lt_or_ge i (cs.length) with hlt | hge
 ·have hdi : decide ((i : Int) < ((cs.length : Nat) : Int)) = true := decide_eq_true (by omega)
  have hw := wrap_succ hlt (show cs.length <= maxLen by omega)
  have hia : i < (B2 ++ C2).length := by omega
  rcases Nat.lt_or_ge i B2.length with hib | hib
  ·have hd1 : decide ((i : Int) < (B2.length : Int)) = true := decide_eq_true (by omega)
   have hd2 : decide ((B2.length : Int) <= (i : Int)) = false := decide_eq_false (by omega)
   have hg : (B2 ++ C2)[i] = B2[i] := List.getElem_append_left hib
   simp (maxSteps := 2000000) only [go_sem, seval, hdi, hd1, hd2, hlen, hw, getD_map hia, getD_map hib, hg, encRes]
   refine scs ?_
   trace_state
   (apply hK
    exact ⟨cs.length - (i + 1), _, by omega, Ent.wk [0, 1, 2, 3, 4, 5, 6, 7], i + 1, by omega, rfl, rfl⟩)
  ·have hd1 : decide ((i : Int) < (B2.length : Int)) = false := decide_eq_false (by omega)
   have hd2 : decide ((B2.length : Int) <= (i : Int)) = true := decide_eq_true (by omega)
   have hic : i - B2.length < C2.length := by omega
   have hws : IntKind.i64.wrap ((i : Int) - (B2.length : Int)) = ((i - B2.length : Nat) : Int) := by rw [wrap_id (by omega) (by omega)]; omega
   have hg : (B2 ++ C2)[i] = C2[i - B2.length] := List.getElem_append_right hib
   simp (maxSteps := 2000000) only [go_sem, seval, hdi, hd1, hd2, hlen, hw, hws, getD_map hia, getD_map hic, hg, encRes]
   refine scs ?_
   trace_state
   (apply hK
    exact ⟨cs.length - (i + 1), _, by omega, Ent.wk [0, 1, 2, 3, 4, 5, 6, 7], i + 1, by omega, rfl, rfl⟩)
 ·have hge' : cs.length = i := by omega
  subst hge'
  have hdi : decide (((cs.length : Nat) : Int) < ((cs.length : Nat) : Int)) = false := by simp
  simp (maxSteps := 2000000) only [go_sem, seval, hdi, hlen]
  apply hK
  refine evl ?_
  refine scs ?_
  refine ck e28 (hcD) rfl ?_
  refine evl ?_
  refine scs ?_
  refine ck e27 (hSS) rfl ?_
  refine evl ?_
  refine scs ?_
  refine ck e22 (c22 l (by omega)) rfl ?_
  rcases hml : mapOk l with _ | _
  ·simp (maxSteps := 2000000) only [go_sem, seval, hml]
   refine scs ?_
   first | refine CCallK_of (.one (.dat (.bool false))) ?_ | refine CCallK_og (.one (.dat (.bool false))) ?_
   refine evl ?_
   refine scs ?_
   refine Fin.nt results5 [] ?_ ?_ ?_ <;> try trivial
  ·have hcM := c22 A1 (by omega)
   rw [hok hml] at hcM
   simp (maxSteps := 2000000) only [go_sem, seval, hml]
   refine scs ?_
   refine ck e22 (hcM) rfl ?_
   refine evl ?_
   refine scs ?_
   refine Fin.nt results5 [] ?_ ?_ ?_ <;> try trivial
theorem law (dss : List (List D)) (h : WTAll prog 8 f5.params.toList dss) : Ctr prog 5 (argAVs prog f5.params.toList dss) [] (.one (.dat (.bool true))) [] := by
 rw [params5] at *
 simp only [WTAll, List.toList_toArray] at h
 obtain ⟨_, _, rfl, h0, rfl⟩ := h
 obtain ⟨b, rfl, hl, hb⟩ := decBytes underlying33 underlying5 tc_5 h0
 simp only [argAVs, argAV, List.toList_toArray, underlying33, List.headD_cons]
 exact c5 b hl hb

theorem own : ownKnob prog.godebug = none := by kernel_rfl

set_option maxRecDepth 100000 in
theorem lifted (os : Os) (started : os.Started) (H : Type) (enc : TypeId × Value -> H) :
  ReturnsInHanded {} Try.checked os 5 .any (Rows.fnCommandsSpec.pre6 enc prog f5 Rows.fnCommandsRow.domain false) (Rows.fnCommandsSpec.post enc prog f5 false true false false) := by
 refine returnsInHanded_of_change (C := Try.checked) own started (by kernel_rfl) func5
  (ChangeSpec.witness6 (enc := enc) (C := Try.checked) false ⟨#[], #[.slice none 0 0], []⟩ 8 (by kernel_rfl) (by kernel_rfl) (by kernel_rfl) (by kernel_rfl)) ?_
 intro W base args ds gs before hval0 hW hcnd _
 have hW' := hW
 obtain ⟨p, q, hA0, hV, rfl, hfz, hnd⟩ := hW'
 have hA : DataW.TrodAll enc prog W 0 (fun _ => true) true f5.params.toList args.toList ds p := hA0
 obtain ⟨dss, h1, h2⟩ := args_rep (n := 8) (by kernel_rfl) (fun j t v hj hv => hval0 j t v (by simpa using hj) (by simpa using hv)) hA
 have hs : Rows.fnCommandsSpec.fn H (ds ++ gs) = { results := [.lit (.bool true)], args := ds, vars := [] } := by
  obtain ⟨rfl, rfl⟩ := trodVars_none hV
  rw [params5] at hA
  obtain ⟨v0, vs0, d0, ds0, p0, q0, _, rfl, _, _, r0⟩ := trodAll_cons hA
  obtain ⟨_, rfl, _⟩ := trodAll_nil r0
  rfl
 have hc := law_calls (law dss h1) h2
 rw [Array.toArray_toList] at hc
 refine hc.mono fun e W' ⟨he, hb⟩ => ?_
 subst he
 exact ⟨_, rfl, law_post (by kernel_rfl) (by kernel_rfl) rfl hW hs rfl underlying4 hb⟩

theorem closed : joinedFacts prog 5 f5 Rows.fnCommandsSpec Rows.fnCommandsRow = true := by
 unfold joinedFacts
 simp only [Bool.and_eq_true, Whole.laidOut, Whole.rowed, Whole.stops, Whole.knobs, Whole.keys, Whole.heard, Whole.enter, Whole.lifts, Whole.make, true_and, and_true]
 repeat' (refine And.intro ?_ ?_)
 all_goals (as_aux_lemma => kernel_rfl)

theorem over : Rows.fnCommandsRow.holds Try.pinned (OpenSpec.ofChange Rows.fnCommandsSpec) :=
 OpenClaim.holds_of_wide 5 f5 rfl rfl rfl rfl rfl rfl rfl ⟨rfl, rfl, rfl, rfl, rfl⟩ rfl rfl rfl rfl rfl (by kernel_rfl) func5 closed
  (of_decide_eq_true (by kernel_rfl)) (by unfold Func.isWrapper; first | (rw [if_pos (by decide +kernel)]; kernel_rfl) | (rw [if_neg (by decide +kernel)]; exact ⟨rfl, rfl⟩))
  (fun os started H enc _ => lifted os started H enc)

theorem proved : Rows.FnCommandsSaid :=
 over
end Go.Proofs.Ytppbonemkipgeaa.fnCommands
