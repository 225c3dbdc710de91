/- Contracts: Care. -/
import Derived.Test.YtcanhdhlbghfiaaGreatRows
import Derived.Test.YtcanhdhlbghfiaaGreatATy
import Derived.Test.YtcanhdhlbghfiaaGreatAbsTac
import Derived.Test.YtcanhdhlbghfiaaGreatAbsData
import Derived.Test.YtcanhdhlbghfiaaGreatACloneI
import Derived.Test.YtcanhdhlbghfiaaGreatAFam3
import Derived.Test.YtcanhdhlbghfiaaGreatASl
import Derived.Test.YtcanhdhlbghfiaaGreatASorts
import Derived.Test.YtcanhdhlbghfiaaGreatAStore
import Derived.Test.YtcanhdhlbghfiaaGreatAValid
import Derived.WalkKit
import Derived.ProofKit
import Derived.OpenShut
namespace Go.Proofs.YtcanhdhlbghfiaaGreat.Mod
open Go.Abs Go.Proofs.YtcanhdhlbghfiaaGreat.Ty Go.ChangeShapes Go.WideShapes Go.ChangeAt Go.RowKit
set_option linter.unusedSimpArgs false
set_option linter.unusedVariables false
set_option maxHeartbeats 8000000
set_option maxRecDepth 100000
def effPin (p : Pin) : Bool := p.On && !p.Marked
theorem c101 (p : Pin) : Ctr Tryz.prog 101 [.agg ((encPin p).map .dat)] [] (.one (.dat (.bool (effPin p)))) [] := by
 simp only [encPin, List.map_cons, List.map_nil]
 refine Ctr.bd mixed Tryz.func101 rfl ?_
 refine evl ?_
 repeat ((with_reducible show _ ∧ _); refine scA ?_)
 refine Fin.nt Tryz.results101 [] ?_ ?_ ?_ <;> try trivial
 (refine rsl ?_; try exact True.intro)
 simp only [effPin]
 cases p.On <;> rfl
def tGuards (j : TJob) (p : Pin) : Bool := j.Busy && (within j.Pc 3 4 && effPin p)
def gGo : List TJob → List Pin → List Int
 | j :: J, p :: Ps => if tGuards j p then j.H :: gGo J Ps else gGo J Ps
 | _, _ => []
theorem gGo_nil (Ps : List Pin) : gGo [] Ps = [] := by cases Ps <;> rfl
theorem gGo_len : ∀ (J : List TJob) (Ps : List Pin), (gGo J Ps).length ≤ J.length
 | [], _ => by simp [gGo]
 | j :: J, [] => by simp [gGo]
 | j :: J, p :: Ps => by
  have := gGo_len J Ps
  rw [gGo]
  split <;> simp <;> omega
def nz (l : List Int) : List Int := l.filter fun n => !(n == 0)
theorem nz_cons (x : Int) (l : List Int) : nz (x :: l) = if x = 0 then nz l else x :: nz l := by
 unfold nz
 by_cases h : x = 0 <;> simp [h]
theorem nz_app (a b : List Int) : nz (a ++ b) = nz a ++ nz b := by simp [nz]
theorem nz_len (l : List Int) : (nz l).length ≤ l.length := List.length_filter_le ..
def guardedM (t : Table) : List Int := bif tableOk t then gGo t.Jobs t.Base.Clock.Pins else []
def tguardedM (t : Table) : List Int := ascN (guardedM t)
theorem ascN_nz (l : List Int) : ascN l = putsN [] (nz l) := rfl
theorem clockOk_len {c : Clock} (h : clockOk c = true) : c.Pins.length = 3 := by
 simp only [clockOk, Bool.and_eq_true, decide_eq_true_eq] at h
 omega
theorem guardedM_len {t : Table} (h : tableOk t = true) : (guardedM t).length ≤ 3 := by
 obtain ⟨_, _, h3, _⟩ := tableOk_parts h
 have := gGo_len t.Jobs t.Base.Clock.Pins
 rw [guardedM, h]
 simp only [cond_true]
 omega
theorem tguardedM_len (t : Table) : (tguardedM t).length ≤ 3 := by
 have := ascN_len (guardedM t)
 unfold tguardedM
 cases h : tableOk t with
 | false =>
  have hg : guardedM t = [] := by rw [guardedM, h]; rfl
  rw [hg]; decide
 | true => have := guardedM_len h; omega
theorem c29 (t : Table) (hz : sizTable t ≤ 1048576) : Ctr Tryz.prog 29 [.agg ((encTable t).map .dat)] [] (.one (.own 0)) [.vec 1 true ((tguardedM t).map encI)] := by
 have hmx : maxLen = 9223372036854775807 := rfl
 have hct := c16 t hz
 have hce := fun p => c101 p
 simp only [encPin, List.map_cons, List.map_nil] at hce
 simp only [encTable, List.map_cons, List.map_nil] at hct ⊢
 refine Ctr.bd mixed Tryz.func29 rfl ?_
 refine evl ?_
 repeat ((with_reducible show _ ∧ _); refine scA ?_)
 refine ck e16 (hct) rfl ?_
 simp (maxSteps := 2000000) only [go_sem, seval, List.length_map]
 repeat ((with_reducible show _ ∧ _); refine scA ?_)
 refine ⟨fun hq => ?_, fun hq => ?_⟩
 ·have h0 : tableOk t = false := by simpa using hq
  have hg : tguardedM t = [] := by rw [tguardedM, guardedM, h0]; rfl
  rw [hg]
  refine Fin.nt Tryz.results29 [1] ?_ ?_ ?_ <;> try trivial
  all_goals exact entd
 have h0 : tableOk t = true := by simpa using hq
 clear hq
 obtain ⟨hbo, _, h3, _⟩ := tableOk_parts h0
 have hp3 := clockOk_len (baseOk_parts hbo).2.1
 have hgd : guardedM t = gGo t.Jobs t.Base.Clock.Pins := by rw [guardedM, h0]; rfl
 have hgl := guardedM_len h0
 unfold tguardedM
 rw [hgd] at hgl ⊢
 refine LoopK_intro (fun zn zs => ∃ (i : Nat) (o : List Int), i ≤ t.Jobs.length ∧ zn = t.Jobs.length - i ∧ (gGo t.Jobs t.Base.Clock.Pins = o ++ gGo (t.Jobs.drop i) (t.Base.Clock.Pins.drop i)) ∧ zs = mkSt [(14, .one (.dat (.int .i64 i))), (13, .one (.dat (.int .i64 (t.Jobs.length)))), (12, .one (.dat (.sl 32 (t.Jobs.map encTJob)))), (1, .one (.ptr (.own 0 0 0))), (3, .one (.own 1))] [.box [.dat (.sl 1 (t.Base.Mem.Heap.Bytes.map encI)), .dat (.sl 1 (t.Base.Mem.Heap.Class.map encI)), .dat (.sl 1 (t.Base.Mem.Lists.Global.map encSList)), .dat (.sl 1 (t.Base.Mem.Lists.Own.map encSList)), .dat (.int .i64 t.Base.Clock.Epoch), .dat (.sl 4 (t.Base.Clock.Pins.map encPin)), .dat (.sl 1 (t.Base.Limbo.map encLList)), .dat (.sl 1 (t.Base.Haz.map encI)), .dat (.sl 3 (t.Bkts.map encBkt)), .dat (.sl 32 (t.Jobs.map encTJob)), .dat (.sl 1 (t.Todo.map encTQueue)), .dat (.sl 6 (t.Log.map encTEv)), .dat (.int .i64 t.Serial)], .vec 1 true (o.map encI)]) (t.Jobs.length) _
  (Ent.wk [0, 1]) ⟨0, [], by omega, by omega, rfl, rfl⟩ ?_
 rintro zn zs ⟨i, o, hi, rfl, hinv, rfl⟩ K hK
 rcases Nat.lt_or_ge i (t.Jobs.length) with hlt | hge
 ·have hdi : decide ((i : Int) < ((t.Jobs.length : Nat) : Int)) = true := decide_eq_true (by omega)
  have hw := wrap_succ hlt (show t.Jobs.length ≤ maxLen by omega)
  have hlp : i < t.Base.Clock.Pins.length := by omega
  obtain ⟨j, hji⟩ : ∃ j, t.Jobs[i] = j := ⟨_, rfl⟩
  obtain ⟨p, hpi⟩ : ∃ p, t.Base.Clock.Pins[i] = p := ⟨_, rfl⟩
  rw [List.drop_eq_getElem_cons hlt, List.drop_eq_getElem_cons hlp, hji, hpi, gGo] at hinv
  have hol : o.length ≤ 3 := by
   have := congrArg List.length hinv
   rw [List.length_append] at this
   omega
  simp (maxSteps := 2000000) only [go_sem, seval, hdi, hw, getD_map hlt, getD_map hlp, hji, hpi, encTJob, encPin, List.length_map, List.append_eq]
  repeat ((with_reducible show _ ∧ _); refine scA ?_)
  refine ck e73 (c73 j.Pc 3 4) rfl ?_
  simp (maxSteps := 2000000) only [go_sem, seval, hdi, hw, getD_map hlt, getD_map hlp, hji, hpi, encTJob, encPin, List.length_map, List.append_eq]
  repeat ((with_reducible show _ ∧ _); refine scA ?_)
  refine ck e101 (hce p) rfl ?_
  simp (maxSteps := 2000000) only [go_sem, seval, hdi, hw, getD_map hlt, getD_map hlp, hji, hpi, encTJob, encPin, List.length_map, List.append_eq]
  repeat ((with_reducible show _ ∧ _); refine scA ?_)
  refine ⟨fun hq => ?_, fun hq => ?_⟩
  ·have hc : tGuards j p = true := by
    revert hq; rw [tGuards]; cases j.Busy <;> cases within j.Pc 3 4 <;> cases effPin p <;> simp
   rw [hc, if_pos rfl] at hinv
   repeat ((with_reducible show _ ∧ _); refine scA ?_)
   (apply hK
    exact ⟨t.Jobs.length - (i + 1), _, by omega, Ent.wk [0, 4], i + 1, (o ++ [j.H]), by omega, rfl, by rw [hinv]; simp, rfl⟩)
  ·have hc : tGuards j p = false := by
    revert hq; rw [tGuards]; cases j.Busy <;> cases within j.Pc 3 4 <;> cases effPin p <;> simp
   rw [hc, if_neg (by simp)] at hinv
   (apply hK
    exact ⟨t.Jobs.length - (i + 1), _, by omega, Ent.wk [0, 1], i + 1, o, by omega, rfl, hinv, rfl⟩)
 ·have hge' : t.Jobs.length = i := by omega
  subst hge'
  have hdi : decide (((t.Jobs.length : Nat) : Int) < ((t.Jobs.length : Nat) : Int)) = false := by simp
  have hoe : gGo t.Jobs t.Base.Clock.Pins = o := by rw [hinv, List.drop_length, gGo_nil, List.append_nil]
  clear hinv
  rw [hoe] at hgl
  simp (maxSteps := 2000000) only [go_sem, seval, hdi, List.length_map]
  apply hK
  rw [hoe]
  refine evl ?_
  repeat ((with_reducible show _ ∧ _); refine scA ?_)
  refine ck e102 (c102 o (by omega)) rfl ?_
  refine evl ?_
  refine Fin.nt Tryz.results29 [2] ?_ ?_ ?_ <;> try trivial
  all_goals exact entd
theorem within34 (x : Int) : within x 3 4 = (x == 3 || x == 4) := by
 rw [within, Bool.eq_iff_iff]
 simp only [decide_eq_true_eq, Bool.or_eq_true, beq_iff_eq]
 omega
theorem c28 (t : Table) (hz : sizTable t ≤ 1048576) : Ctr Tryz.prog 28 [.agg ((encTable t).map .dat)] [] (.one (.own 0)) [.vec 1 true ((tguardedM t).map encI)] := by
 have hmx : maxLen = 9223372036854775807 := rfl
 have hct := c14 t hz
 simp only [encTable, List.map_cons, List.map_nil] at hct ⊢
 cases h0 : tableOk t with
 | false =>
  have hg : tguardedM t = [] := by rw [tguardedM, guardedM, h0]; rfl
  rw [h0] at hct
  rw [hg]
  refine Ctr.bd mixed Tryz.func28 rfl ?_
  refine evl ?_
  repeat ((with_reducible show _ ∧ _); refine scA ?_)
  refine ck e14 (hct) rfl ?_
  refine evl ?_
  refine LoopK_intro (fun zn zs => ∃ i : Nat, i ≤ 0 ∧ zn = 0 - i ∧ zs = mkSt [(5, .one (.dat (.int .i64 i))), (1, .one (.ptr (.own 0 0 0))), (3, .one (.own 1)), (4, .one (.dat (.bool false)))] [.box [.dat (.sl 1 (t.Base.Mem.Heap.Bytes.map encI)), .dat (.sl 1 (t.Base.Mem.Heap.Class.map encI)), .dat (.sl 1 (t.Base.Mem.Lists.Global.map encSList)), .dat (.sl 1 (t.Base.Mem.Lists.Own.map encSList)), .dat (.int .i64 t.Base.Clock.Epoch), .dat (.sl 4 (t.Base.Clock.Pins.map encPin)), .dat (.sl 1 (t.Base.Limbo.map encLList)), .dat (.sl 1 (t.Base.Haz.map encI)), .dat (.sl 3 (t.Bkts.map encBkt)), .dat (.sl 32 (t.Jobs.map encTJob)), .dat (.sl 1 (t.Todo.map encTQueue)), .dat (.sl 6 (t.Log.map encTEv)), .dat (.int .i64 t.Serial)], .vec 1 true []]) (0) _
   (Ent.wk [0, 1]) ⟨0, by omega, by omega, rfl⟩ ?_
  rintro zn zs ⟨i, hi, rfl, rfl⟩ K hK
  rcases Nat.lt_or_ge i (0) with hlt | hge
  ·have hdi : decide ((i : Int) < ((0 : Nat) : Int)) = true := decide_eq_true (by omega)
   have hw := wrap_succ hlt (by decide)
   exact absurd hlt (Nat.not_lt_zero _)
  ·have hge' : 0 = i := by omega
   subst hge'
   have hdi : decide (((0 : Nat) : Int) < ((0 : Nat) : Int)) = false := by simp
   have hd0 : decide (((0 : Nat) : Int) < 3) = true := rfl
   simp (maxSteps := 2000000) only [go_sem, seval, hd0]
   apply hK
   refine evl ?_
   refine Fin.nt Tryz.results28 [1] ?_ ?_ ?_ <;> try trivial
   all_goals exact entd
 | true =>
 obtain ⟨hbo, _, h3, _⟩ := tableOk_parts h0
 have hp3 := clockOk_len (baseOk_parts hbo).2.1
 have hgd : guardedM t = gGo t.Jobs t.Base.Clock.Pins := by rw [guardedM, h0]; rfl
 unfold tguardedM
 rw [hgd, ascN_nz]
 rw [h0] at hct
 refine Ctr.bd mixed Tryz.func28 rfl ?_
 refine evl ?_
 repeat ((with_reducible show _ ∧ _); refine scA ?_)
 refine ck e14 (hct) rfl ?_
 refine evl ?_
 refine LoopK_intro (fun zn zs => ∃ (i : Nat) (o : List Int), i ≤ 3 ∧ zn = 3 - i ∧ (putsN [] (nz (gGo t.Jobs t.Base.Clock.Pins)) = putsN o (nz (gGo (t.Jobs.drop i) (t.Base.Clock.Pins.drop i))) ∧ o.length ≤ i) ∧ zs = mkSt [(5, .one (.dat (.int .i64 i))), (1, .one (.ptr (.own 0 0 0))), (3, .one (.own 1)), (4, .one (.dat (.bool true)))] [.box [.dat (.sl 1 (t.Base.Mem.Heap.Bytes.map encI)), .dat (.sl 1 (t.Base.Mem.Heap.Class.map encI)), .dat (.sl 1 (t.Base.Mem.Lists.Global.map encSList)), .dat (.sl 1 (t.Base.Mem.Lists.Own.map encSList)), .dat (.int .i64 t.Base.Clock.Epoch), .dat (.sl 4 (t.Base.Clock.Pins.map encPin)), .dat (.sl 1 (t.Base.Limbo.map encLList)), .dat (.sl 1 (t.Base.Haz.map encI)), .dat (.sl 3 (t.Bkts.map encBkt)), .dat (.sl 32 (t.Jobs.map encTJob)), .dat (.sl 1 (t.Todo.map encTQueue)), .dat (.sl 6 (t.Log.map encTEv)), .dat (.int .i64 t.Serial)], .vec 1 true (o.map encI)]) (3) _
  (Ent.wk [0, 1]) ⟨0, [], by omega, by omega, ⟨rfl, Nat.le_refl _⟩, rfl⟩ ?_
 rintro zn zs ⟨i, o, hi, rfl, hinv, rfl⟩ K hK
 rcases Nat.lt_or_ge i (3) with hlt | hge
 ·have hdi : decide ((i : Int) < ((3 : Nat) : Int)) = true := decide_eq_true (by omega)
  have hw := wrap_succ hlt (show 3 ≤ maxLen by decide)
  obtain ⟨hv1, hv2⟩ := hinv
  have hd3 : decide ((i : Int) < 3) = true := decide_eq_true (by omega)
  have hgi : i < t.Jobs.length := by omega
  have hlp : i < t.Base.Clock.Pins.length := by omega
  obtain ⟨j, hji⟩ : ∃ j, t.Jobs[i] = j := ⟨_, rfl⟩
  obtain ⟨p, hpi⟩ : ∃ p, t.Base.Clock.Pins[i] = p := ⟨_, rfl⟩
  rw [List.drop_eq_getElem_cons hgi, List.drop_eq_getElem_cons hlp, hji, hpi, gGo] at hv1
  have hpl := putN_len o j.H
  have htg : tGuards j p = (j.Busy && ((j.Pc == 3 || j.Pc == 4) && (p.On && !p.Marked))) := by rw [tGuards, within34, effPin]
  simp (maxSteps := 2000000) only [go_sem, seval, hd3, hw, getD_map hgi, getD_map hlp, hji, hpi, encTJob, encPin, List.length_map, List.append_eq]
  repeat ((with_reducible show _ ∧ _); refine scA ?_)
  refine ⟨fun hq => ?_, fun hq => ?_⟩
  ·have hc : tGuards j p = true ∧ j.H ≠ 0 := by
    rw [htg]
    revert hq
    cases j.Busy <;> cases (j.Pc == 3) <;> cases (j.Pc == 4) <;> cases p.On <;> cases p.Marked <;> simp
   rw [hc.1, if_pos rfl, nz_cons, if_neg hc.2] at hv1
   repeat ((with_reducible show _ ∧ _); refine scA ?_)
   refine CallK_os [1] e100 (by simp [osOk, St.obj, find]) (c100 o (by omega) j.H) rfl ?_
   simp (maxSteps := 2000000) only [go_sem, seval, hd3, hw, getD_map hgi, getD_map hlp, hji, hpi, encTJob, encPin, List.length_map, List.append_eq]
   repeat ((with_reducible show _ ∧ _); refine scA ?_)
   (apply hK
    exact ⟨3 - (i + 1), _, by omega, Ent.wk [0, 4], i + 1, (putN o j.H), by omega, rfl, ⟨hv1, by omega⟩, rfl⟩)
  ·have hc : nz (if tGuards j p = true then j.H :: gGo (t.Jobs.drop (i + 1)) (t.Base.Clock.Pins.drop (i + 1)) else gGo (t.Jobs.drop (i + 1)) (t.Base.Clock.Pins.drop (i + 1))) = nz (gGo (t.Jobs.drop (i + 1)) (t.Base.Clock.Pins.drop (i + 1))) := by
    rw [htg]
    split
    ·rename_i hb
     rw [nz_cons]
     split
     ·rfl
     ·rename_i hz
      exfalso
      revert hq hb
      cases j.Busy <;> cases (j.Pc == 3) <;> cases (j.Pc == 4) <;> cases p.On <;> cases p.Marked <;> simp [hz]
    ·rfl
   rw [hc] at hv1
   repeat ((with_reducible show _ ∧ _); refine scA ?_)
   (apply hK
    exact ⟨3 - (i + 1), _, by omega, Ent.wk [0, 1], i + 1, o, by omega, rfl, ⟨hv1, by omega⟩, rfl⟩)
 ·have hge' : 3 = i := by omega
  subst hge'
  have hdi : decide (((3 : Nat) : Int) < ((3 : Nat) : Int)) = false := by simp
  have hd3 : decide (((3 : Nat) : Int) < 3) = false := rfl
  have hoe : putsN [] (nz (gGo t.Jobs t.Base.Clock.Pins)) = o := by
   rw [hinv.1, List.drop_of_length_le (by omega), gGo_nil]; rfl
  simp (maxSteps := 2000000) only [go_sem, seval, hd3]
  apply hK
  rw [hoe]
  refine evl ?_
  refine Fin.nt Tryz.results28 [1] ?_ ?_ ?_ <;> try trivial
  all_goals exact entd
end Go.Proofs.YtcanhdhlbghfiaaGreat.Mod
