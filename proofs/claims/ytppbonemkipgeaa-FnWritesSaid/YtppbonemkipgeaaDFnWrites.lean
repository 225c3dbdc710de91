/- FnWrites: the program answers as the statement says, at every argument. -/
import Derived.Test.YtppbonemkipgeaaRows
import Derived.Test.YtppbonemkipgeaaDTy
import Derived.Test.YtppbonemkipgeaaAbsTac
import Derived.Test.YtppbonemkipgeaaAbsData
import Derived.Test.YtppbonemkipgeaaWhole
import Derived.Test.YtppbonemkipgeaaDBase
import Derived.Test.YtppbonemkipgeaaDNum
import Derived.Test.YtppbonemkipgeaaDFam
import Derived.Test.YtppbonemkipgeaaDFam2
import Derived.Test.YtppbonemkipgeaaDSl
import Derived.Test.YtppbonemkipgeaaDMap
import Derived.Test.YtppbonemkipgeaaDSorts
import Derived.Test.YtppbonemkipgeaaDTouchM
import Derived.Test.YtppbonemkipgeaaDDraws
import Derived.Test.YtppbonemkipgeaaDWrites
import Derived.WalkKit
import Derived.ProofKit
import Derived.OpenShut
namespace Go.Proofs.Ytppbonemkipgeaa.fnWrites
open Go.Proofs.Try Go.Abs Go.Proofs.Ytppbonemkipgeaa.Ty Go.ChangeShapes Go.WideShapes Go.ChangeAt Go.RowKit Go.Proofs.Ytppbonemkipgeaa.Mod
set_option linter.unusedSimpArgs false
set_option linter.unusedVariables false
set_option maxHeartbeats 8000000
set_option maxRecDepth 100000
theorem c6 (b : List Int) (hl : b.length <= maxLen) (hbv : ∀ x ∈ b, 0 <= x /\ x <= 255) : Ctr prog 6 [.one (.dat (.sl 1 (b.map encB)))] [] (.one (.dat (.bool true))) [] := by
 have hmx : maxLen = 9223372036854775807 := rfl
 refine Ctr.bd mixed func6 rfl ?_
 refine evl ?_
 refine scs ?_
 refine ck e16 (c16 b hl) rfl ?_
 refine evl ?_
 refine scs ?_
 constructor <;> intro hq
 ·refine Fin.nt results6 [] ?_ ?_ ?_ <;> try trivial
 have hb : BytesL b := ⟨by have := of_decide_eq_false hq; omega, hbv⟩
 refine CallK_cell [] e24 (c24 b hb) rfl rfl ?_
 rintro r0 xs' ⟨l, cs, hll, hcl, rfl, rfl⟩ -
 refine evl ?_
 refine scs ?_
 refine ck e22 (c22 l (by omega)) rfl ?_
 refine evl ?_
 refine scs ?_
 constructor <;> intro hm
 ·refine Fin.nt results6 [] ?_ ?_ ?_ <;> try trivial
 have hm : mapOk l = true := by simpa using hm
 have hasc := ((mapOk_iff l).1 hm)
 refine scs ?_
 refine LoopK_ent (Ent.toDat (t := 3) (o := 0) rfl rfl) ?_
 refine LoopK_ent (Ent.toDat (t := 6) (o := 0) rfl rfl) ?_
 refine evl ?_
 refine LoopK_intro (fun zn zs => ∃ (i : Nat) (w : List Write) (d : List KV), i <= 6 /\ zn = 6 - i /\ (WInv l d w i) /\ zs = mkSt [(7, .one (.dat (.int .i64 i))), (3, .one (.dat (.sl 2 (l.map encKV)))), (5, .one (.own 0)), (6, .one (.dat (.sl 2 (d.map encKV)))), (0, .one (.dat (.sl 1 (b.map encB))))] [.vec 3 true (w.map encWrite)]) (6) _
  (Ent.wk [2]) ⟨0, [], l, by omega, by omega, ⟨List.Pairwise.nil, by simp, by simp, by simp, hasc.2, fun j => rfl, fun h => absurd h (by decide)⟩, rfl⟩ ?_
 rintro zn zs ⟨i, w, d, hi, rfl, hinv, rfl⟩ K hK
 rcases Nat.lt_or_ge i (6) with hlt | hge
 ·have hdi : decide ((i : Int) < ((6 : Nat) : Int)) = true := decide_eq_true (by omega)
  have hw := wrap_succ hlt (by decide)
  have hd6 : decide ((i : Int) < 6) = true := decide_eq_true (by omega)
  have ⟨hv1, hv2, hv3, _⟩ := hinv
  have hb0 := atM_b hb (show (0 : Int) <= (i : Int) by omega)
  have hk0 : 0 <= (atM b i).tmod 5 /\ (atM b i).tmod 5 <= 99 := by rw [Int.tmod_eq_emod_of_nonneg hb0.1]; omega
  have hw6 : IntKind.i64.wrap ((i : Int) + 6) = (i : Int) + 6 := wrap_id (by omega) (by omega)
  have hw12 : IntKind.i64.wrap ((i : Int) + 12) = (i : Int) + 12 := wrap_id (by omega) (by omega)
  have hwm := wrap_id (n := (atM b i).tmod 5) (by omega) (by omega)
  refine sv5 ?_
  refine scs ?_
  refine ck e29 (c29 b hb i (by omega) (by omega)) rfl ?_
  refine sv5 ?_
  refine scs ?_
  refine ck e29 (c29 b hb ((i : Int) + 6) (by omega) (by omega)) rfl ?_
  refine sv5 ?_
  refine scs ?_
  constructor <;> intro hq
  ·refine scs ?_
   refine ck e30 (c30 w (by omega) ⟨(atM b i).tmod 5, true, 0⟩) rfl ?_
   refine sv5 ?_
   refine scs ?_
   refine ck e31 (c31 d (by omega) ((atM b i).tmod 5)) rfl ?_
   refine sv5 ?_
   refine scs ?_
   apply hK
   refine ⟨6 - (i + 1), _, by omega, ?_, i + 1, writePut w ⟨(atM b i).tmod 5, true, 0⟩, mapDel d ((atM b i).tmod 5), by omega, rfl, hinv.del hk0.1 hk0.2, rfl⟩
   refine Ent.trans (Ent.toDat (t := 6) (o := 2) rfl rfl) ?_
   conv =>
    arg 2
    simp (maxSteps := 2000001) only [go_sem, seval]
   exact Ent.wk [1]
  ·refine scs ?_
   refine ck e29 (c29 b hb ((i : Int) + 12) (by omega) (by omega)) rfl ?_
   refine sv5 ?_
   refine scs ?_
   refine ck e30 (c30 w (by omega) ⟨(atM b i).tmod 5, false, atM b ((i : Int) + 12)⟩) rfl ?_
   refine sv5 ?_
   refine scs ?_
   refine ck e29 (c29 b hb ((i : Int) + 12) (by omega) (by omega)) rfl ?_
   refine sv5 ?_
   refine scs ?_
   refine ck e32 (c32 d (by omega) ((atM b i).tmod 5) (atM b ((i : Int) + 12))) rfl ?_
   refine sv5 ?_
   refine scs ?_
   apply hK
   refine ⟨6 - (i + 1), _, by omega, ?_, i + 1, writePut w ⟨(atM b i).tmod 5, false, atM b ((i : Int) + 12)⟩, mapPut d ((atM b i).tmod 5) (atM b ((i : Int) + 12)), by omega, rfl, hinv.put hk0.1 hk0.2 _, rfl⟩
   refine Ent.trans (Ent.toDat (t := 6) (o := 2) rfl rfl) ?_
   conv =>
    arg 2
    simp (maxSteps := 2000001) only [go_sem, seval]
   exact Ent.wk [1]
 ·have hge' : 6 = i := by omega
  subst hge'
  have hdi : decide (((6 : Nat) : Int) < ((6 : Nat) : Int)) = false := by simp
  have hd6 : decide (((6 : Nat) : Int) < 6) = false := rfl
  simp (maxSteps := 2000000) only [go_sem, seval, hd6]
  apply hK
  have hap := hinv.done hasc.2
  obtain ⟨hv1, hv2, hv3, hv4, _, _, hpos⟩ := hinv
  have hpos := hpos (by decide)
  refine evl ?_
  refine scs ?_
  obtain ⟨d', hd'⟩ : ∃ d', d' = d := ⟨_, rfl⟩
  have hwl : w.length <= 6 := by omega
  refine LoopK_intro (fun zn zs => ∃ (i : Nat) (p : Nat), i <= w.length /\ zn = w.length - i /\ (p = cntPut (w.take i)) /\ zs = mkSt [(10, .one (.dat (.int .i64 i))), (3, .one (.dat (.sl 2 (l.map encKV)))), (5, .one (.own 0)), (6, .one (.dat (.sl 2 (d.map encKV)))), (9, .one (.dat (.int .i64 (p : Int)))), (0, .one (.dat (.sl 1 (b.map encB))))] [.vec 3 true (w.map encWrite)]) (w.length) _
   (Ent.wk [0]) ⟨0, 0, by omega, by omega, rfl, rfl⟩ ?_
  rintro zn zs ⟨i, p, hi2, rfl, hinv2, rfl⟩ K2 hK2
  rcases Nat.lt_or_ge i (w.length) with hlt2 | hge2
  ·have hdi2 : decide ((i : Int) < ((w.length : Nat) : Int)) = true := decide_eq_true (by omega)
   have hw2 := wrap_succ hlt2 (show w.length <= maxLen by omega)
   obtain ⟨x, hx⟩ : ∃ x, w[i] = x := ⟨_, rfl⟩
   have hwo := c33 w (by omega) x.Key
   have hat := writeOf_at hv1 hlt2
   rw [hx] at hat
   rw [hat] at hwo
   simp only at hwo
   have hml : (touchedM w).length <= maxLen := by have := touchedM_len w; omega
   have hwk := hv4 x (by rw [<- hx]; exact List.getElem_mem hlt2)
   have hth : decide (bktOf x.Key ∈ touchedM w) = true := decide_eq_true (touched_has (by rw [<- hx]; exact List.getElem_mem hlt2) hwk.1 hwk.2)
   have hcs := cntPut_succ hlt2
   have hcl := cntPut_le w i
   rw [hx] at hcs
   have hwp : IntKind.i64.wrap ((p : Int) + 1) = ((p + 1 : Nat) : Int) := wrap_succ (show p < 10 by omega) (by decide)
   obtain ⟨k, hk, hkl, hlast⟩ : ∃ k : Nat, (IntKind.i64.wrap ((i : Int) - 1)).toNat = k /\ k < w.length /\ (decide ((0 : Int) < (i : Int)) = true -> IntKind.i64.wrap ((i : Int) - 1) = (k : Int) /\ ∃ h : k < w.length, decide (x.Key <= w[k].Key) = false) := by
    rcases Nat.eq_zero_or_pos i with h0 | h0
    ·subst h0; exact ⟨0, rfl, hlt2, fun h => by simp at h⟩
    ·have e : IntKind.i64.wrap ((i : Int) - 1) = ((i - 1 : Nat) : Int) := by rw [wrap_id (by omega) (by omega)]; omega
     refine ⟨i - 1, by rw [e]; rfl, by omega, fun _ => ⟨e, by omega, decide_eq_false fun hle => ?_⟩⟩
     have := (List.pairwise_iff_getElem.1 hv1) (i - 1) i (by omega) hlt2 (by omega)
     rw [hx] at this; omega
   refine sv6 ?_
   refine scs ?_
   refine ck e33 (hwo) rfl ?_
   rcases hpi : decide ((0 : Int) < (i : Int)) with _ | _
   ·simp (maxSteps := 2000000) only [go_sem, seval, hdi2, hw2, getD_map hlt2, hx, encWrite, hk, hpi, getD_map hkl]
    refine scs ?_
    refine CCallK_vec e10 (fun hg => ⟨by first | exact trivial | exact hg | simp, c10 w (by omega)⟩) rfl ?_
    refine sv6 ?_
    refine scs ?_
    first | refine CCallK_intro e35 (fun hg => ⟨by first | exact trivial | exact hg | exact ⟨hg, hg⟩ | (simp; done) | (simp_all only [Bool.not_false, Bool.not_true, and_self]; done), c35 x.Key⟩) rfl rfl ?_ | refine Or.inl (CCallK_intro e35 (fun hg => ⟨by first | exact trivial | exact hg | exact ⟨hg, hg⟩ | (simp; done) | (simp_all only [Bool.not_false, Bool.not_true, and_self]; done), c35 x.Key⟩) rfl rfl ?_)
    refine sv6 ?_
    refine scs ?_
    first | refine CCallK_intro e34 (fun hg => ⟨by first | exact trivial | exact hg | exact ⟨hg, hg⟩ | (simp; done) | (simp_all only [Bool.not_false, Bool.not_true, and_self]; done), c34 (touchedM w) hml (bktOf x.Key)⟩) rfl rfl ?_ | refine Or.inl (CCallK_intro e34 (fun hg => ⟨by first | exact trivial | exact hg | exact ⟨hg, hg⟩ | (simp; done) | (simp_all only [Bool.not_false, Bool.not_true, and_self]; done), c34 (touchedM w) hml (bktOf x.Key)⟩) rfl rfl ?_)
    simp (maxSteps := 2000000) only [go_sem, seval, hdi2, hw2, getD_map hlt2, hx, encWrite, hth]
    refine scs ?_
    constructor <;> intro hdl
    ·have hdl : x.Del = false := by simpa using hdl
     rw [hdl] at hcs
     simp (maxSteps := 2000000) only [go_sem, seval, hdi2, hw2, getD_map hlt2, hx, encWrite, hwp]
     refine scs ?_
     (apply hK2
      exact ⟨w.length - (i + 1), _, by omega, Ent.wk [0], i + 1, p + 1, by omega, rfl, by rw [hcs, hinv2]; rfl, rfl⟩)
    ·have hdl : x.Del = true := by simpa using hdl
     rw [hdl] at hcs
     (apply hK2
      exact ⟨w.length - (i + 1), _, by omega, Ent.wk [0], i + 1, p, by omega, rfl, by rw [hcs, hinv2]; rfl, rfl⟩)
   ·obtain ⟨hk1, hk2, hk3⟩ := hlast hpi
    simp (maxSteps := 2000000) only [go_sem, seval, hdi2, hw2, getD_map hlt2, hx, encWrite, hk1, hpi, hk3, getD_map hkl]
    refine scs ?_
    refine CCallK_vec e10 (fun hg => ⟨by first | exact trivial | exact hg | simp, c10 w (by omega)⟩) rfl ?_
    refine sv6 ?_
    refine scs ?_
    first | refine CCallK_intro e35 (fun hg => ⟨by first | exact trivial | exact hg | exact ⟨hg, hg⟩ | (simp; done) | (simp_all only [Bool.not_false, Bool.not_true, and_self]; done), c35 x.Key⟩) rfl rfl ?_ | refine Or.inl (CCallK_intro e35 (fun hg => ⟨by first | exact trivial | exact hg | exact ⟨hg, hg⟩ | (simp; done) | (simp_all only [Bool.not_false, Bool.not_true, and_self]; done), c35 x.Key⟩) rfl rfl ?_)
    refine sv6 ?_
    refine scs ?_
    first | refine CCallK_intro e34 (fun hg => ⟨by first | exact trivial | exact hg | exact ⟨hg, hg⟩ | (simp; done) | (simp_all only [Bool.not_false, Bool.not_true, and_self]; done), c34 (touchedM w) hml (bktOf x.Key)⟩) rfl rfl ?_ | refine Or.inl (CCallK_intro e34 (fun hg => ⟨by first | exact trivial | exact hg | exact ⟨hg, hg⟩ | (simp; done) | (simp_all only [Bool.not_false, Bool.not_true, and_self]; done), c34 (touchedM w) hml (bktOf x.Key)⟩) rfl rfl ?_)
    simp (maxSteps := 2000000) only [go_sem, seval, hdi2, hw2, getD_map hlt2, hx, encWrite, hth]
    refine scs ?_
    constructor <;> intro hdl
    ·have hdl : x.Del = false := by simpa using hdl
     rw [hdl] at hcs
     simp (maxSteps := 2000000) only [go_sem, seval, hdi2, hw2, getD_map hlt2, hx, encWrite, hwp]
     refine scs ?_
     (apply hK2
      exact ⟨w.length - (i + 1), _, by omega, Ent.wk [0], i + 1, p + 1, by omega, rfl, by rw [hcs, hinv2]; rfl, rfl⟩)
    ·have hdl : x.Del = true := by simpa using hdl
     rw [hdl] at hcs
     (apply hK2
      exact ⟨w.length - (i + 1), _, by omega, Ent.wk [0], i + 1, p, by omega, rfl, by rw [hcs, hinv2]; rfl, rfl⟩)
  ·have hge2' : w.length = i := by omega
   subst hge2'
   have hdi2 : decide (((w.length : Nat) : Int) < ((w.length : Nat) : Int)) = false := by simp
   have es1 : seenPut [] 1 5 = ([⟨1, 5⟩], true) := by decide
   have es2 : seenPut [⟨1, 5⟩] 1 5 = ([⟨1, 5⟩], true) := by decide
   have es3 : (seenPut [⟨1, 5⟩] 1 6).2 = false := by decide
   have hs1 := c36 [] (by simp) 1 5
   have hs2 := c36 [⟨1, 5⟩] (by simp) 1 5
   have hs3 := c36 [⟨1, 5⟩] (by simp) 1 6
   rw [es1] at hs1
   rw [es2] at hs2
   rw [es3] at hs3
   obtain ⟨S3, hS3⟩ : ∃ S3, (seenPut [⟨1, 5⟩] 1 6).1 = S3 := ⟨_, rfl⟩
   rw [hS3] at hs3
   rw [List.take_length] at hinv2
   simp (maxSteps := 2000000) only [go_sem, seval, hdi2]
   apply hK2
   refine evl ?_
   refine scs ?_
   refine ck e36 (hs1) rfl ?_
   refine evl ?_
   refine scs ?_
   refine ck e36 (hs2) rfl ?_
   refine evl ?_
   refine scs ?_
   refine ck e36 (hs3) rfl ?_
   have hd0 : decide ((0 : Int) < (w.length : Int)) = true := decide_eq_true (by omega)
   have hcA := c37 l (by omega) w (by omega)
   rw [hap] at hcA
   have hSS := c27 d d (by omega) (by omega)
   rw [show decide (d = d) = true by simp] at hSS
   have hcP := c38 w (by omega) (w.length : Int)
   rw [show (w.length : Int).toNat = w.length from rfl, List.take_length, <- hinv2] at hcP
   have hpp : ((p : Int) == (p : Int)) = true := by simp
   refine sv7 ?_
   refine scs ?_
   first | refine CCallK_vec e37 (fun hg => ⟨by first | exact trivial | exact hg | simp, hcA⟩) rfl ?_ | refine Or.inl (CCallK_vec e37 (fun hg => ⟨by first | exact trivial | exact hg | simp, hcA⟩) rfl ?_)
   refine sv7 ?_
   refine scs ?_
   first | refine CCallK_intro e27 (fun hg => ⟨by first | exact trivial | exact hg | exact ⟨hg, hg⟩ | (simp; done) | (simp_all only [Bool.not_false, Bool.not_true, and_self]; done), hSS⟩) rfl rfl ?_ | refine Or.inl (CCallK_intro e27 (fun hg => ⟨by first | exact trivial | exact hg | exact ⟨hg, hg⟩ | (simp; done) | (simp_all only [Bool.not_false, Bool.not_true, and_self]; done), hSS⟩) rfl rfl ?_)
   refine sv7 ?_
   refine scs ?_
   first | refine CCallK_intro e38 (fun hg => ⟨by first | exact trivial | exact hg | exact ⟨hg, hg⟩ | (simp; done) | (simp_all only [Bool.not_false, Bool.not_true, and_self]; done), hcP⟩) rfl rfl ?_ | refine Or.inl (CCallK_intro e38 (fun hg => ⟨by first | exact trivial | exact hg | exact ⟨hg, hg⟩ | (simp; done) | (simp_all only [Bool.not_false, Bool.not_true, and_self]; done), hcP⟩) rfl rfl ?_)
   simp (maxSteps := 2000000) only [go_sem, seval, hpp]
   refine scs ?_
   refine Fin.nt results6 [] ?_ ?_ ?_ <;> try trivial
theorem law (dss : List (List D)) (h : WTAll prog 8 f6.params.toList dss) : Ctr prog 6 (argAVs prog f6.params.toList dss) [] (.one (.dat (.bool true))) [] := by
 rw [params6] at *
 simp only [WTAll, List.toList_toArray] at h
 obtain ⟨_, _, rfl, h0, rfl⟩ := h
 obtain ⟨b, rfl, hl, hb⟩ := decBytes underlying33 underlying5 tc_5 h0
 simp only [argAVs, argAV, List.toList_toArray, underlying33, List.headD_cons]
 exact c6 b hl hb

theorem own : ownKnob prog.godebug = none := by kernel_rfl

set_option maxRecDepth 100000 in
theorem lifted (os : Os) (started : os.Started) (H : Type) (enc : TypeId × Value -> H) :
  ReturnsInHanded {} Try.checked os 6 .any (Rows.fnWritesSpec.pre6 enc prog f6 Rows.fnWritesRow.domain false) (Rows.fnWritesSpec.post enc prog f6 false true false false) := by
 refine returnsInHanded_of_change (C := Try.checked) own started (by kernel_rfl) func6
  (ChangeSpec.witness6 (enc := enc) (C := Try.checked) false ⟨#[], #[.slice none 0 0], []⟩ 8 (by kernel_rfl) (by kernel_rfl) (by kernel_rfl) (by kernel_rfl)) ?_
 intro W base args ds gs before hval0 hW hcnd _
 have hW' := hW
 obtain ⟨p, q, hA0, hV, rfl, hfz, hnd⟩ := hW'
 have hA : DataW.TrodAll enc prog W 0 (fun _ => true) true f6.params.toList args.toList ds p := hA0
 obtain ⟨dss, h1, h2⟩ := args_rep (n := 8) (by kernel_rfl) (fun j t v hj hv => hval0 j t v (by simpa using hj) (by simpa using hv)) hA
 have hs : Rows.fnWritesSpec.fn H (ds ++ gs) = { results := [.lit (.bool true)], args := ds, vars := [] } := by
  obtain ⟨rfl, rfl⟩ := trodVars_none hV
  rw [params6] at hA
  obtain ⟨v0, vs0, d0, ds0, p0, q0, _, rfl, _, _, r0⟩ := trodAll_cons hA
  obtain ⟨_, rfl, _⟩ := trodAll_nil r0
  rfl
 have hc := law_calls (law dss h1) h2
 rw [Array.toArray_toList] at hc
 refine hc.mono fun e W' ⟨he, hb⟩ => ?_
 subst he
 exact ⟨_, rfl, law_post (by kernel_rfl) (by kernel_rfl) rfl hW hs rfl underlying4 hb⟩

theorem closed : joinedFacts prog 6 f6 Rows.fnWritesSpec Rows.fnWritesRow = true := by
 unfold joinedFacts
 simp only [Bool.and_eq_true, Whole.laidOut, Whole.rowed, Whole.stops, Whole.knobs, Whole.keys, Whole.heard, Whole.enter, Whole.lifts, Whole.make, true_and, and_true]
 repeat' (refine And.intro ?_ ?_)
 all_goals (as_aux_lemma => kernel_rfl)

theorem over : Rows.fnWritesRow.holds Try.pinned (OpenSpec.ofChange Rows.fnWritesSpec) :=
 OpenClaim.holds_of_wide 6 f6 rfl rfl rfl rfl rfl rfl rfl ⟨rfl, rfl, rfl, rfl, rfl⟩ rfl rfl rfl rfl rfl (by kernel_rfl) func6 closed
  (of_decide_eq_true (by kernel_rfl)) (by unfold Func.isWrapper; first | (rw [if_pos (by decide +kernel)]; kernel_rfl) | (rw [if_neg (by decide +kernel)]; exact ⟨rfl, rfl⟩))
  (fun os started H enc _ => lifted os started H enc)

theorem proved : Rows.FnWritesSaid :=
 over
end Go.Proofs.Ytppbonemkipgeaa.fnWrites
