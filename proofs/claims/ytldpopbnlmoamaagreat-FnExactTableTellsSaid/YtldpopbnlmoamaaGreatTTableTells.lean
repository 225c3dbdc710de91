/- FnExactTableTells: the program answers as the statement says, at every argument. -/
import Derived.Test.YtldpopbnlmoamaaGreatRows
import Derived.Test.YtldpopbnlmoamaaGreatTTy
import Derived.Test.YtldpopbnlmoamaaGreatAbsTac
import Derived.Test.YtldpopbnlmoamaaGreatAbsData
import Derived.Test.YtldpopbnlmoamaaGreatWhole
import Derived.Test.YtldpopbnlmoamaaGreatTBase
import Derived.Test.YtldpopbnlmoamaaGreatTFam
import Derived.Test.YtldpopbnlmoamaaGreatTFam2
import Derived.Test.YtldpopbnlmoamaaGreatTSok
import Derived.Test.YtldpopbnlmoamaaGreatTFam3
import Derived.Test.YtldpopbnlmoamaaGreatTMarks
import Derived.Test.YtldpopbnlmoamaaGreatTExact
import Derived.Test.YtldpopbnlmoamaaGreatTSl
import Derived.WalkKit
import Derived.ProofKit
import Derived.OpenShut
namespace Go.Proofs.YtldpopbnlmoamaaGreat.Mod
open Go.Proofs.Tryz Go.Abs Go.Proofs.YtldpopbnlmoamaaGreat.Ty Go.ChangeShapes Go.WideShapes Go.ChangeAt Go.RowKit
set_option linter.unusedSimpArgs false
set_option linter.unusedVariables false
set_option maxHeartbeats 8000000
set_option maxRecDepth 100000
theorem c62 (l : List Cmd) (hl : l.length <= 1048576) : Ctr prog 62 [.one (.dat (.sl 3 (l.map encCmd)))] [] (.one (.own 0)) [.vec 3 true (l.map encCmd)] := by
 have hfl : ∀ r ∈ l.map encCmd, ∀ d ∈ r, d.flat = true := by simp [encCmd, D.flat]
 refine Ctr.bd mixed func62 rfl ?_
 refine sv14 ?_
 refine scs ?_
 refine Fin.nt results62 [1] ?_ ?_ ?_ <;> try trivial
 all_goals exact entd
theorem c63 (l : List Res) (hl : l.length <= 1048576) : Ctr prog 63 [.one (.dat (.sl 2 (l.map encRes)))] [] (.one (.own 0)) [.vec 2 true (l.map encRes)] := by
 have hfl : ∀ r ∈ l.map encRes, ∀ d ∈ r, d.flat = true := by simp [encRes, D.flat]
 refine Ctr.bd mixed func63 rfl ?_
 refine sv14 ?_
 refine scs ?_
 refine Fin.nt results63 [1] ?_ ?_ ?_ <;> try trivial
 all_goals exact entd
theorem c30 (x : TEv) (hx : x.sok) : Ctr prog 30 [.agg ((encTEv x).map .dat)] [] (.agg [.dat (.int .i64 x.Kind), .dat (.int .i64 x.Who), .dat (.int .i64 x.Serial), .dat (.int .i64 x.Code), .own 0, .own 1]) [.vec 3 true (x.Cmds.map encCmd), .vec 2 true (x.Res.map encRes)] := by
 obtain ⟨q0, q1, _⟩ := hx
 simp only [encTEv, List.map_cons, List.map_nil]
 refine Ctr.bd mixed func30 rfl ?_
 refine evl ?_
 refine scs ?_
 refine ck e71 (c71 x.Cmds (by omega)) rfl ?_
 refine evl ?_
 refine scs ?_
 refine ck e72 (c72 x.Res (by omega)) rfl ?_
 refine evl ?_
 repeat ((with_reducible show _ = true /\ _); refine ⟨by kernel_rfl, ?_⟩)
 refine scs ?_
 refine Fin.nt results30 [2, 3] ?_ ?_ ?_ <;> try trivial
 all_goals exact entd
theorem c25 (l : List TEv) (hl : l.length <= 1048576) (hq : ∀ x ∈ l, x.sok) : Ctr prog 25 [.one (.dat (.sl 6 (l.map encTEv)))] [] (.one (.own 0)) [.vec 6 true (l.map encTEv)] := by
 refine Ctr.bd mixed func25 rfl ?_
 refine evl ?_
 refine scs ?_
 refine LoopK_intro (fun zn zs => ∃ (i : Nat) (o : List TEv), i <= l.length /\ zn = l.length - i /\ (l = o ++ l.drop i /\ o.length = i) /\ zs = mkSt [(4, .one (.dat (.int .i64 i))), (3, .one (.own 0)), (0, .one (.dat (.sl 6 (l.map encTEv))))] [.vec 6 true (o.map encTEv)]) (l.length) _
  (Ent.wk [0]) ⟨0, [], by omega, by omega, ⟨rfl, rfl⟩, rfl⟩ ?_
 rintro zn zs ⟨i, o, hi, rfl, hinv, rfl⟩ K hK
 rcases Nat.lt_or_ge i (l.length) with hlt | hge
 ·have hdi : decide ((i : Int) < ((l.length : Nat) : Int)) = true := decide_eq_true (by omega)
  have hw := wrap_succ hlt (show l.length <= maxLen by unfold maxLen; omega)
  obtain ⟨hin, hol⟩ := hinv
  obtain ⟨q0, q1, _⟩ := hq l[i] (List.getElem_mem hlt)
  rw [List.drop_eq_getElem_cons hlt] at hin
  obtain ⟨x, hxi⟩ : ∃ x, l[i] = x := ⟨_, rfl⟩
  rw [hxi] at hin q0 q1
  refine sv15 ?_
  refine scs ?_
  refine ck e62 (c62 x.Cmds q0) rfl ?_
  refine sv15 ?_
  refine scs ?_
  refine ck e63 (c63 x.Res q1) rfl ?_
  refine sv15 ?_
  refine scs ?_
  (apply hK
   exact ⟨l.length - (i + 1), _, by omega, Ent.wk [5], i + 1, (o ++ [x]), by omega, rfl, ⟨by rw [List.append_assoc]; exact hin, by simp [hol]⟩, rfl⟩)
 ·have hge' : l.length = i := by omega
  subst hge'
  have hdi : decide (((l.length : Nat) : Int) < ((l.length : Nat) : Int)) = false := by simp
  have hoe : l = o := by have := hinv.1; rw [List.drop_length, List.append_nil] at this; exact this
  clear hinv
  refine sv3 ?_
  apply hK
  refine evl ?_
  rw [hoe]
  refine Fin.nt results25 [0] ?_ ?_ ?_ <;> try trivial
  all_goals exact entd
def tellsM (t : Table) : List TEv := t.Log.filter fun e => e.Kind == 3
theorem tells_cons (e : TEv) (l : List TEv) : (e :: l).filter (fun e => e.Kind == 3) = if (e.Kind == 3) = true then e :: l.filter (fun e => e.Kind == 3) else l.filter (fun e => e.Kind == 3) := by rw [List.filter_cons]
theorem table_log {t : Table} (hz : sizTable t <= 1048576) : t.Log.length <= 1048576 /\ ∀ x ∈ t.Log, x.sok := by
 unfold sizTable at hz
 unfold sizTEvS at hz
 exact ⟨by omega, fun x hx => TEv.sok_of (by have := sum_mem sizTEv hx; omega)⟩
theorem siz_filter (p : TEv -> Bool) (l : List TEv) : sizTEvS (l.filter p) <= sizTEvS l := by
 unfold sizTEvS
 induction l with
 | nil => simp
 | cons x l ih =>
  rw [List.filter_cons]
  split
  ·simp only [List.map_cons, List.sum_cons, List.length_cons] at ih ⊢; omega
  ·simp only [List.map_cons, List.sum_cons, List.length_cons] at ih ⊢; omega
theorem tells_bnd {t : Table} (hz : sizTable t <= 1048576) : sizTEvS (tellsM t) <= 1048576 /\ (tellsM t).length <= 1048576 /\ ∀ x ∈ tellsM t, x.sok := by
 obtain ⟨h1, h2⟩ := table_log hz
 have h3 := siz_filter (fun e => e.Kind == 3) t.Log
 have h4 := List.length_filter_le (fun e : TEv => e.Kind == 3) t.Log
 refine ⟨?_, by unfold tellsM; omega, fun x hx => h2 x (List.mem_filter.1 hx).1⟩
 unfold sizTable at hz
 unfold tellsM
 omega
theorem c8 (t : Table) (hz : sizTable t <= 1048576) : Ctr prog 8 [.agg ((encTable t).map .dat)] [] (.one (.own 0)) [.vec 6 true ((tellsM t).map encTEv)] := by
 obtain ⟨hl, hq⟩ := table_log hz
 have hcc := fun x h => c30 x h
 unfold tellsM
 simp only [encTable, encTEv, List.map_cons, List.map_nil] at hcc ⊢
 refine Ctr.bd mixed func8 rfl ?_
 refine sv14 ?_
 refine scs ?_
 refine LoopK_intro (fun zn zs => ∃ (i : Nat) (o : List TEv), i <= t.Log.length /\ zn = t.Log.length - i /\ (t.Log.filter (fun e => e.Kind == 3) = o ++ (t.Log.drop i).filter (fun e => e.Kind == 3) /\ o.length <= i) /\ zs = mkSt [(10, .one (.dat (.int .i64 i))), (9, .one (.dat (.int .i64 (t.Log.length)))), (8, .one (.dat (.sl 6 (t.Log.map encTEv)))), (1, .one (.ptr (.own 0 0 0))), (3, .one (.own 1))] [.box [.dat (.sl 1 (t.Base.Mem.Heap.Bytes.map encI)), .dat (.sl 1 (t.Base.Mem.Heap.Class.map encI)), .dat (.sl 1 (t.Base.Mem.Lists.Global.map encSList)), .dat (.sl 1 (t.Base.Mem.Lists.Own.map encSList)), .dat (.int .i64 t.Base.Clock.Epoch), .dat (.sl 4 (t.Base.Clock.Pins.map encPin)), .dat (.sl 1 (t.Base.Limbo.map encLList)), .dat (.sl 1 (t.Base.Haz.map encI)), .dat (.sl 3 (t.Bkts.map encBkt)), .dat (.sl 32 (t.Jobs.map encTJob)), .dat (.sl 1 (t.Todo.map encTQueue)), .dat (.sl 6 (t.Log.map encTEv)), .dat (.int .i64 t.Serial)], .vec 6 true (o.map encTEv)]) (t.Log.length) _
  (Ent.wk [0, 1]) ⟨0, [], by omega, by omega, ⟨rfl, Nat.le_refl _⟩, rfl⟩ ?_
 rintro zn zs ⟨i, o, hi, rfl, hinv, rfl⟩ K hK
 rcases Nat.lt_or_ge i (t.Log.length) with hlt | hge
 ·have hdi : decide ((i : Int) < ((t.Log.length : Nat) : Int)) = true := decide_eq_true (by omega)
  have hw := wrap_succ hlt (show t.Log.length <= maxLen by unfold maxLen; omega)
  obtain ⟨hin, hol⟩ := hinv
  have hqx := hq _ (List.getElem_mem hlt)
  obtain ⟨x, hxi⟩ : ∃ x, t.Log[i] = x := ⟨_, rfl⟩
  rw [List.drop_eq_getElem_cons hlt, hxi, tells_cons] at hin
  rw [hxi] at hqx
  refine sv15 ?_
  refine scs ?_
  constructor <;> intro hk
  ·rw [if_pos hk] at hin
   refine scs ?_
   refine ck e30 (hcc x hqx) rfl ?_
   refine sv15 ?_
   repeat ((with_reducible show _ = true /\ _); refine ⟨by kernel_rfl, ?_⟩)
   refine scs ?_
   (apply hK
    exact ⟨t.Log.length - (i + 1), _, by omega, Ent.wk [0, 6], i + 1, (o ++ [x]), by omega, rfl, ⟨by rw [hin, List.append_assoc]; rfl, by simp; omega⟩, rfl⟩)
  ·rw [if_neg (by rw [hk]; simp)] at hin
   (apply hK
    exact ⟨t.Log.length - (i + 1), _, by omega, Ent.wk [0, 1], i + 1, o, by omega, rfl, ⟨hin, by omega⟩, rfl⟩)
 ·have hge' : t.Log.length = i := by omega
  subst hge'
  have hdi : decide (((t.Log.length : Nat) : Int) < ((t.Log.length : Nat) : Int)) = false := by simp
  have hoe : t.Log.filter (fun e => e.Kind == 3) = o := by rw [hinv.1, List.drop_length, List.filter_nil, List.append_nil]
  clear hinv
  refine sv3 ?_
  apply hK
  rw [hoe]
  refine evl ?_
  refine Fin.nt results8 [1] ?_ ?_ ?_ <;> try trivial
  all_goals exact entd
theorem c6 (t : Table) (hz : sizTable t <= 1048576) : CtrB prog 6 [.agg ((encTable t).map .dat)] (.one (.dat (.sl 6 ((tellsM t).map encTEv)))) [] := by
 obtain ⟨hl, hq⟩ := table_log hz
 have hcl := c25 t.Log hl hq
 unfold tellsM
 simp only [encTable, List.map_cons, List.map_nil]
 refine CtrB.body mixed func6 rfl (by kernel_rfl) (Nat.le_of_ble_eq_true rfl) (by simp [AV.isDat, Leaf.isDat]) (by simp [AV.Sh, AV.Sh1, Leaf.Sh]) (by simp [AObj.IsVec]) (by simp [AV.up, AV.up1, Leaf.up, AV.Low, AV.Low1, Leaf.Low]) (fun bl => ?_)
 refine sv14 ?_
 refine scs ?_
 refine ck e25 (hcl) rfl ?_
 refine evl ?_
 refine LoopK_ent (Ent.unsep (o := 2) rfl) ?_
 refine LoopK_ent (Ent.toDat (t := 4) (o := 3) rfl rfl) ?_
 refine evl ?_
 refine LoopK_intro (fun zn zs => ∃ (i : Nat) (o : List TEv), i <= t.Log.length /\ zn = t.Log.length - i /\ (t.Log.filter (fun e => e.Kind == 3) = o ++ (t.Log.drop i).filter (fun e => e.Kind == 3) /\ o.length <= i) /\ zs = mkSt [(5, .one (.dat (.int .i64 i))), (3, .one (.own 1)), (4, .one (.dat (.sl 6 (t.Log.map encTEv))))] [.ballast bl, .vec 6 false (o.map encTEv)]) (t.Log.length) _
  (Ent.wk [0, 2]) ⟨0, [], by omega, by omega, ⟨rfl, Nat.le_refl _⟩, rfl⟩ ?_
 rintro zn zs ⟨i, o, hi, rfl, hinv, rfl⟩ K hK
 rcases Nat.lt_or_ge i (t.Log.length) with hlt | hge
 ·have hdi : decide ((i : Int) < ((t.Log.length : Nat) : Int)) = true := decide_eq_true (by omega)
  have hw := wrap_succ hlt (show t.Log.length <= maxLen by unfold maxLen; omega)
  obtain ⟨hin, hol⟩ := hinv
  obtain ⟨x, hxi⟩ : ∃ x, t.Log[i] = x := ⟨_, rfl⟩
  rw [List.drop_eq_getElem_cons hlt, hxi, tells_cons] at hin
  refine sv15 ?_
  refine scs ?_
  constructor <;> intro hk
  ·rw [if_pos hk] at hin
   refine scs ?_
   (apply hK
    exact ⟨t.Log.length - (i + 1), _, by omega, Ent.wk [0, 3], i + 1, (o ++ [x]), by omega, rfl, ⟨by rw [hin, List.append_assoc]; rfl, by simp; omega⟩, rfl⟩)
  ·rw [if_neg (by rw [hk]; simp)] at hin
   (apply hK
    exact ⟨t.Log.length - (i + 1), _, by omega, Ent.wk [0, 1], i + 1, o, by omega, rfl, ⟨hin, by omega⟩, rfl⟩)
 ·have hge' : t.Log.length = i := by omega
  subst hge'
  have hdi : decide (((t.Log.length : Nat) : Int) < ((t.Log.length : Nat) : Int)) = false := by simp
  have hoe : t.Log.filter (fun e => e.Kind == 3) = o := by rw [hinv.1, List.drop_length, List.filter_nil, List.append_nil]
  clear hinv
  refine sv3 ?_
  apply hK
  rw [hoe]
  refine evl ?_
  refine Fin.ent (Ent.toDat (t := 2) (o := 1) rfl rfl) ?_
  refine evl ?_
  refine Fin.nt results6 [0] ?_ ?_ ?_ <;> try trivial
  all_goals exact entd
end Go.Proofs.YtldpopbnlmoamaaGreat.Mod
namespace Go.Proofs.YtldpopbnlmoamaaGreat.fnExactTableTells
open Go.Proofs.Tryz Go.Abs Go.Proofs.YtldpopbnlmoamaaGreat.Ty Go.ChangeShapes Go.WideShapes Go.ChangeAt Go.RowKit Go.Proofs.YtldpopbnlmoamaaGreat.Mod
set_option linter.unusedSimpArgs false
set_option linter.unusedVariables false
set_option maxHeartbeats 8000000
set_option maxRecDepth 100000
theorem c3 (t : Table) (hkt : t.lok) : Ctr prog 3 [.agg ((encTable t).map .dat)] [] (.one (.dat (.bool true))) [] := by
 simp only [encTable, List.map_cons, List.map_nil]
 refine Ctr.bd mixed func3 rfl ?_
 refine sv14 ?_
 repeat ((with_reducible show _ = true /\ _); refine ⟨by kernel_rfl, ?_⟩)
 refine CallK_pure e5 (c5 t hkt 1048576 (by decide) (by decide)) rfl ?_
 refine sv14 ?_
 repeat ((with_reducible show _ = true /\ _); refine ⟨by kernel_rfl, ?_⟩)
 constructor <;> intro h
 ·refine Fin.nt results3 [] ?_ ?_ ?_ <;> try trivial
 obtain ⟨hst, hzt, hgt, hht⟩ := szL_le (by decide) h
 clear h
 repeat ((with_reducible show _ = true /\ _); refine ⟨by kernel_rfl, ?_⟩)
 have hokt := Table.sok_of hst
 have hcnt := mcTable_le t
 have hmx : maxLen = 9223372036854775807 := rfl
 obtain ⟨hr, hrl, hrq⟩ := tells_bnd hst
 have hrc := cntTEvS_le (tellsM t)
 refine ck e7 (c7 t hst) rfl ?_
 refine sv14 ?_
 repeat ((with_reducible show _ = true /\ _); refine ⟨by kernel_rfl, ?_⟩)
 refine CallK_share [1, 2, 3, 4, 5, 6, 7, 8, 9, 10, 11] e6 (c6 t hst) rfl ?_
 refine sv14 ?_
 repeat ((with_reducible show _ = true /\ _); refine ⟨by kernel_rfl, ?_⟩)
 refine ck e7 (c7 t hst) rfl ?_
 refine sv14 ?_
 repeat ((with_reducible show _ = true /\ _); refine ⟨by kernel_rfl, ?_⟩)
 refine ck e8 (c8 t hst) rfl ?_
 refine sv14 ?_
 repeat ((with_reducible show _ = true /\ _); refine ⟨by kernel_rfl, ?_⟩)
 refine ck e9 (c9 (tellsM t) (tellsM t) hr hr) rfl ?_
 refine sv14 ?_
 repeat ((with_reducible show _ = true /\ _); refine ⟨by kernel_rfl, ?_⟩)
 refine ck e7 (c7 t hst) rfl ?_
 refine sv14 ?_
 repeat ((with_reducible show _ = true /\ _); refine ⟨by kernel_rfl, ?_⟩)
 refine ck e10 (c10 t t hst hst) rfl ?_
 refine sv14 ?_
 repeat ((with_reducible show _ = true /\ _); refine ⟨by kernel_rfl, ?_⟩)
 refine CallK_os [12, 13, 14, 15, 16, 17, 18, 19, 20, 21, 22] e11 (by simp [osOk, St.obj, find]) (c11 t hokt 1 (by omega) (by omega)) rfl ?_
 refine sv14 ?_
 repeat ((with_reducible show _ = true /\ _); refine ⟨by kernel_rfl, ?_⟩)
 have hkk : decide ((1 + (mcTable t : Int)) < 0) = false := by simp only [decide_eq_false_iff_not]; omega
 refine sv16 ?_
 repeat ((with_reducible show _ = true /\ _); refine ⟨by kernel_rfl, ?_⟩)
 refine ck e9 (c9 (tellsM t) (tellsM t) hr hr) rfl ?_
 refine sv16 ?_
 repeat ((with_reducible show _ = true /\ _); refine ⟨by kernel_rfl, ?_⟩)
 refine CallK_os [24] e12 (by simp [osOk, St.obj, find]) (c12_e (tellsM t) hrl hrq 1 (by omega) (by omega)) rfl ?_
 refine sv16 ?_
 repeat ((with_reducible show _ = true /\ _); refine ⟨by kernel_rfl, ?_⟩)
 refine ck e13 (c13 (tellsM t) hrl hrq 1 (by omega) (by omega)) rfl ?_
 refine sv16 ?_
 repeat ((with_reducible show _ = true /\ _); refine ⟨by kernel_rfl, ?_⟩)
 have hq1 : decide ((1 + (cntTEvS (tellsM t) : Int)) < 0) = false := by simp only [decide_eq_false_iff_not]; omega
 refine sv17 ?_
 repeat ((with_reducible show _ = true /\ _); refine ⟨by kernel_rfl, ?_⟩)
 refine ck e7 (c7 t hst) rfl ?_
 refine sv17 ?_
 repeat ((with_reducible show _ = true /\ _); refine ⟨by kernel_rfl, ?_⟩)
 refine ck e8 (c8 t hst) rfl ?_
 refine sv17 ?_
 repeat ((with_reducible show _ = true /\ _); refine ⟨by kernel_rfl, ?_⟩)
 refine ck e9 (c9 (tellsM t) (tellsM t) hr hr) rfl ?_
 refine sv17 ?_
 repeat ((with_reducible show _ = true /\ _); refine ⟨by kernel_rfl, ?_⟩)
 refine ck e13 (c13 (tellsM t) hrl hrq 1 (by omega) (by omega)) rfl ?_
 refine sv17 ?_
 repeat ((with_reducible show _ = true /\ _); refine ⟨by kernel_rfl, ?_⟩)
 refine Fin.nt results3 [] ?_ ?_ ?_ <;> try trivial
theorem law (dss : List (List D)) (h : WTAll prog 8 f3.params.toList dss) : Ctr prog 3 (argAVs prog f3.params.toList dss) [] (.one (.dat (.bool true))) [] := by
 rw [params3] at *
 simp only [WTAll, List.toList_toArray] at h
 obtain ⟨_, _, rfl, h0, rfl⟩ := h
 obtain ⟨x0, rfl, w0, k0⟩ := decTable _ _ h0
 simp only [argAVs, argAV, List.toList_toArray, underlying41, List.headD_cons]
 exact c3 x0 k0

theorem own : ownKnob prog.godebug = none := by kernel_rfl

set_option maxRecDepth 100000 in
theorem lifted (os : Os) (started : os.Started) (H : Type) (enc : TypeId × Value -> H) :
  ReturnsInHanded {} Tryz.checked os 3 .any (Rows.fnExactTableTellsSpec.pre6 enc prog f3 Rows.fnExactTableTellsRow.domain false) (Rows.fnExactTableTellsSpec.post enc prog f3 false true false false) := by
 refine returnsInHanded_of_change (C := Tryz.checked) own started (by kernel_rfl) func3
  (ChangeSpec.witness6 (enc := enc) (C := Tryz.checked) false ⟨#[], #[.agg #[.slice none 0 0, .slice none 0 0, .slice none 0 0, .slice none 0 0, .int .i64 0, .slice none 0 0, .slice none 0 0, .slice none 0 0, .slice none 0 0, .slice none 0 0, .slice none 0 0, .slice none 0 0, .int .i64 0]], []⟩ 8 (by kernel_rfl) (by kernel_rfl) (by kernel_rfl) (by kernel_rfl)) ?_
 intro W base args ds gs before hval0 hW hcnd _
 have hW' := hW
 obtain ⟨p, q, hA0, hV, rfl, hfz, hnd⟩ := hW'
 have hA : DataW.TrodAll enc prog W 0 (fun _ => true) true f3.params.toList args.toList ds p := hA0
 obtain ⟨dss, h1, h2⟩ := args_rep (n := 8) (by kernel_rfl) (fun j t v hj hv => hval0 j t v (by simpa using hj) (by simpa using hv)) hA
 have hs : Rows.fnExactTableTellsSpec.fn H (ds ++ gs) = { results := [.lit (.bool true)], args := ds, vars := [] } := by
  obtain ⟨rfl, rfl⟩ := trodVars_none hV
  rw [params3] at hA
  obtain ⟨v0, vs0, d0, ds0, p0, q0, _, rfl, _, _, r0⟩ := trodAll_cons hA
  obtain ⟨_, rfl, _⟩ := trodAll_nil r0
  rfl
 have hc := law_calls (law dss h1) h2
 rw [Array.toArray_toList] at hc
 refine hc.mono fun e W' ⟨he, hb⟩ => ?_
 subst he
 exact ⟨_, rfl, law_post (by kernel_rfl) (by kernel_rfl) rfl hW hs rfl underlying4 hb⟩

theorem closed : joinedFacts prog 3 f3 Rows.fnExactTableTellsSpec Rows.fnExactTableTellsRow = true := by
 unfold joinedFacts
 simp only [Bool.and_eq_true, Whole.laidOut, Whole.rowed, Whole.stops, Whole.knobs, Whole.keys, Whole.heard, Whole.enter, Whole.lifts, Whole.make, true_and, and_true]
 repeat' (refine And.intro ?_ ?_)
 all_goals (as_aux_lemma => kernel_rfl)

theorem over : Rows.fnExactTableTellsRow.holds Tryz.pinned (OpenSpec.ofChange Rows.fnExactTableTellsSpec) :=
 OpenClaim.holds_of_wide 3 f3 rfl rfl rfl rfl rfl rfl rfl ⟨rfl, rfl, rfl, rfl, rfl⟩ rfl rfl rfl rfl rfl (by kernel_rfl) func3 closed
  (of_decide_eq_true (by kernel_rfl)) (by unfold Func.isWrapper; first | (rw [if_pos (by decide +kernel)]; kernel_rfl) | (rw [if_neg (by decide +kernel)]; exact ⟨rfl, rfl⟩))
  (fun os started H enc _ => lifted os started H enc)

theorem proved : Rows.FnExactTableTellsSaid :=
 over
end Go.Proofs.YtldpopbnlmoamaaGreat.fnExactTableTells
