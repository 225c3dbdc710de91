import Derived.Test.YtkmmgklnoagedaaGreatRows
import Derived.Test.YtkmmgklnoagedaaGreatQATy
import Derived.Test.YtkmmgklnoagedaaGreatQAbsTac
import Derived.Test.YtkmmgklnoagedaaGreatQAbsData
import Derived.Test.YtkmmgklnoagedaaGreatQAFam3
import Derived.Test.YtkmmgklnoagedaaGreatQANum
import Derived.Test.YtkmmgklnoagedaaGreatQASl2
import Derived.WalkKit
import Derived.ProofKit
import Derived.OpenShut
/- Contracts: Same. -/
namespace Go.Proofs.YtkmmgklnoagedaaGreat.Mod
open Go.Proofs.Tryz Go.Abs Go.Proofs.YtkmmgklnoagedaaGreat.Ty Go.ChangeShapes Go.WideShapes Go.ChangeAt Go.RowKit
set_option linter.unusedSimpArgs false
set_option linter.unusedVariables false
set_option maxHeartbeats 8000000
set_option maxRecDepth 100000
def idleM (t : Table) : Bool := !(t.Jobs.any fun j => j.Busy) && !(t.Todo.any fun q => decide (0 < (q.List.length : Int)))
theorem c143 (x : TJob) : Ctr prog 143 [.agg ((encTJob x).map .dat)] [] (.one (.dat (.bool x.Busy))) [] := by
 simp only [encTJob, List.map_cons, List.map_nil]
 refine Ctr.bd aa func143 rfl ?_
 refine evl ?_
 refine scs ?_
 refine Fin.nt results143 [] ?_ ?_ ?_ <;> try trivial
theorem c144 (x : TQueue) : Ctr prog 144 [.agg ((encTQueue x).map .dat)] [] (.one (.dat (.bool (decide (0 < (x.List.length : Int)))))) [] := by
 simp only [encTQueue, List.map_cons, List.map_nil]
 refine Ctr.bd aa func144 rfl ?_
 refine evl ?_
 refine scs ?_
 refine Fin.nt results144 [] ?_ ?_ ?_ <;> try trivial
theorem c62 (t : Table) (hz : sizTable t <= 1048576) : Ctr prog 62 [.agg ((encTable t).map .dat)] [] (.one (.dat (.bool (idleM t)))) [] := by
 have hj : t.Jobs.length <= maxLen /\ t.Todo.length <= maxLen := by
  have hmx : maxLen = 9223372036854775807 := rfl
  unfold sizTable sizTJobS sizTQueueS at hz; omega
 simp only [encTable, List.map_cons, List.map_nil]
 refine Ctr.bd aa func62 rfl ?_
 refine evl ?_
 refine scs ?_
 refine ck e142 (kj t.Jobs hj.1 e143 (fun x _ => c143 x)) rfl ?_
 refine evl ?_
 refine scs ?_
 refine ck e81 (mh t.Todo hj.2 e144 (fun x _ => c144 x)) rfl ?_
 refine evl ?_
 refine scs ?_
 refine Fin.nt results62 [] ?_ ?_ ?_ <;> try trivial
 (refine rsl ?_; try exact .intro)
 rw [idleM]
 cases (t.Jobs.any fun j => j.Busy) <;> rfl
theorem c53 (t : Table) (hz : sizTable t <= 1048576) : Ctr prog 53 [.agg ((encTable t).map .dat)] [] (.one (.dat (.bool (idleM t)))) [] := by
 have hj : t.Jobs.length <= maxLen /\ t.Todo.length <= maxLen := by
  have hmx : maxLen = 9223372036854775807 := rfl
  unfold sizTable sizTJobS sizTQueueS at hz; omega
 simp only [encTable, List.map_cons, List.map_nil]
 refine Ctr.bd aa func53 rfl ?_
 refine evl ?_
 refine scs ?_
 refine ab (fun zn zs => ∃ i : Nat, i <= t.Jobs.length /\ zn = t.Jobs.length - i /\ ((t.Jobs.any fun j => j.Busy) = ((t.Jobs.drop i).any fun j => j.Busy)) /\ zs = mkSt [(3, .one (.dat (.int .i64 i))), (1, .one (.ptr (.own 0 0 0)))] [.box [.dat (.sl 1 (t.Base.Mem.Heap.Bytes.map encI)), .dat (.sl 1 (t.Base.Mem.Heap.Class.map encI)), .dat (.sl 1 (t.Base.Mem.Lists.Global.map encSList)), .dat (.sl 1 (t.Base.Mem.Lists.Own.map encSList)), .dat (.int .i64 t.Base.Clock.Epoch), .dat (.sl 4 (t.Base.Clock.Pins.map encPin)), .dat (.sl 1 (t.Base.Limbo.map encLList)), .dat (.sl 1 (t.Base.Haz.map encI)), .dat (.sl 3 (t.Bkts.map encBkt)), .dat (.sl 32 (t.Jobs.map encTJob)), .dat (.sl 1 (t.Todo.map encTQueue)), .dat (.sl 6 (t.Log.map encTEv)), .dat (.int .i64 t.Serial)]]) (t.Jobs.length) _
  (Ent.wk [0]) ⟨0, by omega, by omega, rfl, rfl⟩ ?_
 rintro zn zs ⟨i, hi, rfl, hinv, rfl⟩ K hK
 rcases Nat.lt_or_ge i (t.Jobs.length) with hlt | hge
 ·have hdi : decide ((i : Int) < ((t.Jobs.length : Nat) : Int)) = true := decide_eq_true (by omega)
  have hw := ah hlt hj.1
  rw [List.drop_eq_getElem_cons hlt, List.any_cons] at hinv
  simp (maxSteps := 2000000) only [go_sem, seval, hdi, hw, getD_map hlt, encTJob]
  refine scs ?_
  constructor <;> intro hq
  ·rw [hq, Bool.true_or] at hinv
   apply hK
   simp (maxSteps := 2000000) only [go_sem, seval, hdi, hw, getD_map hlt, encTJob]
   refine Fin.nt results53 [] ?_ ?_ ?_ <;> try trivial
   (refine rsl ?_; try exact .intro)
   rw [idleM, hinv]; rfl
  ·rw [hq, Bool.false_or] at hinv
   (apply hK
    exact ⟨t.Jobs.length - (i + 1), _, by omega, Ent.wk [0], i + 1, by omega, rfl, hinv, rfl⟩)
 ·have hge' : t.Jobs.length = i := by omega
  subst hge'
  have hdi : decide (((t.Jobs.length : Nat) : Int) < ((t.Jobs.length : Nat) : Int)) = false := by simp
  rw [List.drop_length, List.any_nil] at hinv
  have hjobs := hinv
  clear hinv
  refine sv3 ?_
  apply hK
  refine evl ?_
  refine ab (fun zn zs => ∃ i : Nat, i <= t.Todo.length /\ zn = t.Todo.length - i /\ ((t.Todo.any fun q => decide (0 < (q.List.length : Int))) = ((t.Todo.drop i).any fun q => decide (0 < (q.List.length : Int)))) /\ zs = mkSt [(4, .one (.dat (.int .i64 i))), (1, .one (.ptr (.own 0 0 0)))] [.box [.dat (.sl 1 (t.Base.Mem.Heap.Bytes.map encI)), .dat (.sl 1 (t.Base.Mem.Heap.Class.map encI)), .dat (.sl 1 (t.Base.Mem.Lists.Global.map encSList)), .dat (.sl 1 (t.Base.Mem.Lists.Own.map encSList)), .dat (.int .i64 t.Base.Clock.Epoch), .dat (.sl 4 (t.Base.Clock.Pins.map encPin)), .dat (.sl 1 (t.Base.Limbo.map encLList)), .dat (.sl 1 (t.Base.Haz.map encI)), .dat (.sl 3 (t.Bkts.map encBkt)), .dat (.sl 32 (t.Jobs.map encTJob)), .dat (.sl 1 (t.Todo.map encTQueue)), .dat (.sl 6 (t.Log.map encTEv)), .dat (.int .i64 t.Serial)]]) (t.Todo.length) _
   (Ent.wk [0]) ⟨0, by omega, by omega, rfl, rfl⟩ ?_
  rintro zn zs ⟨i, hi, rfl, hinv, rfl⟩ K hK
  rcases Nat.lt_or_ge i (t.Todo.length) with hlt | hge
  ·have hdi : decide ((i : Int) < ((t.Todo.length : Nat) : Int)) = true := decide_eq_true (by omega)
   have hw := ah hlt hj.2
   rw [List.drop_eq_getElem_cons hlt, List.any_cons] at hinv
   simp (maxSteps := 2000000) only [go_sem, seval, hdi, hw, getD_map hlt, encTQueue]
   refine scs ?_
   constructor <;> intro hq
   ·rw [hq, Bool.true_or] at hinv
    apply hK
    simp (maxSteps := 2000000) only [go_sem, seval, hdi, hw, getD_map hlt, encTQueue]
    refine Fin.nt results53 [] ?_ ?_ ?_ <;> try trivial
    (refine rsl ?_; try exact .intro)
    rw [idleM, hinv]; simp
   ·rw [hq, Bool.false_or] at hinv
    (apply hK
     exact ⟨t.Todo.length - (i + 1), _, by omega, Ent.wk [0], i + 1, by omega, rfl, hinv, rfl⟩)
  ·have hge' : t.Todo.length = i := by omega
   subst hge'
   have hdi : decide (((t.Todo.length : Nat) : Int) < ((t.Todo.length : Nat) : Int)) = false := by simp
   rw [List.drop_length, List.any_nil] at hinv
   have htodo := hinv
   clear hinv
   refine sv3 ?_
   apply hK
   refine evl ?_
   refine Fin.nt results53 [] ?_ ?_ ?_ <;> try trivial
   (refine rsl ?_; try exact .intro)
   rw [idleM, hjobs, htodo]; rfl
def rowsOf (l : List LList) : List LRow := (l.map (·.Rows)).flatten
theorem rowsOf_drop {l : List LList} {i : Nat} (h : i < l.length) : rowsOf (l.drop i) = l[i].Rows ++ rowsOf (l.drop (i + 1)) := by
 unfold rowsOf
 rw [List.drop_eq_getElem_cons h, List.map_cons, List.flatten_cons]
theorem rowsOf_len (l : List LList) : (rowsOf l).length = (l.map sizLList).sum := by
 induction l with
 | nil => rfl
 | cons x l ih => simp only [rowsOf, List.map_cons, List.flatten_cons, List.length_append, List.sum_cons] at ih ⊢; rw [ih]; rfl
theorem c214 (L : List LList) (hl1 : L.length <= 1048576) (hl2 : (rowsOf L).length <= 1048576) : Ctr prog 214 [.one (.dat (.sl 1 (L.map encLList)))] [] (.one (.own 0)) [.vec 2 true ((rowsOf L).map encLRow)] := by
 have hmx : maxLen = 9223372036854775807 := rfl
 refine Ctr.bd aa func214 rfl ?_
 refine sv18 ?_
 refine scs ?_
 refine ab (fun zn zs => ∃ (i : Nat) (o : List LRow), i <= L.length /\ zn = L.length - i /\ (rowsOf L = o ++ rowsOf (L.drop i)) /\ zs = mkSt [(4, .one (.dat (.int .i64 i))), (3, .one (.own 0)), (0, .one (.dat (.sl 1 (L.map encLList))))] [.vec 2 true (o.map encLRow)]) (L.length) _
  (Ent.wk [0]) ⟨0, [], by omega, by omega, rfl, rfl⟩ ?_
 rintro zn zs ⟨i, o, hi, rfl, hinv, rfl⟩ K hK
 rcases Nat.lt_or_ge i (L.length) with hlt | hge
 ·have hdi : decide ((i : Int) < ((L.length : Nat) : Int)) = true := decide_eq_true (by omega)
  have hw := ah hlt (show L.length <= maxLen by omega)
  rw [rowsOf_drop hlt] at hinv
  have hlen : o.length + L[i].Rows.length <= 1048576 := by
   have := congrArg List.length hinv
   simp only [List.length_append] at this
   omega
  simp (maxSteps := 2000000) only [go_sem, seval, hdi, hw, getD_map hlt, encLList]
  have hfl : ∀ r ∈ L[i].Rows.map encLRow, ∀ d ∈ r, d.flat = true := by
   intro r hr d hd
   obtain ⟨y, _, rfl⟩ := List.mem_map.1 hr
   simp only [encLRow, List.mem_cons, List.not_mem_nil, or_false] at hd
   rcases hd with rfl | rfl <;> rfl
  refine scs ?_
  (apply hK
   exact ⟨L.length - (i + 1), _, by omega, Ent.wk [1], i + 1, (o ++ L[i].Rows), by omega, rfl, by rw [List.append_assoc]; exact hinv, rfl⟩)
 ·have hge' : L.length = i := by omega
  subst hge'
  have hdi : decide (((L.length : Nat) : Int) < ((L.length : Nat) : Int)) = false := by simp
  have hre : rowsOf L = o := by rw [hinv, List.drop_length]; simp [rowsOf]
  clear hinv
  refine sv3 ?_
  apply hK
  refine evl ?_
  rw [hre]
  refine Fin.nt results214 [0] ?_ ?_ ?_ <;> try trivial
  all_goals exact entd
theorem c313 (x y : Batch) (hx : x.sok) (hy : y.sok) : Ctr prog 313 [.agg ((encBatch x).map .dat), .agg ((encBatch y).map .dat)] [] (.one (.dat (.bool (decide (x = y))))) [] := by
 have hmx : maxLen = 9223372036854775807 := rfl
 obtain ⟨a1, _⟩ := hx
 obtain ⟨b1, _⟩ := hy
 simp only [encBatch, List.map_cons, List.map_nil]
 refine Ctr.bd aa func313 rfl ?_
 refine evl ?_
 refine scs ?_
 refine ck e350 (c350 x.Cmds y.Cmds (by omega) (by omega)) rfl ?_
 refine evl ?_
 refine scs ?_
 refine Fin.nt results313 [] ?_ ?_ ?_ <;> try trivial
 (refine rsl ?_; try exact .intro)
 rw [Bool.eq_iff_iff]
 simp only [Batch.eq_iff, decide_eq_true_eq]
 all_goals simp [and_assoc]
theorem c247 (x y : TJob) (hx : x.sok) (hy : y.sok) : Ctr prog 247 [.agg ((encTJob x).map .dat), .agg ((encTJob y).map .dat)] [] (.one (.dat (.bool (decide (x = y))))) [] := by
 have hmx : maxLen = 9223372036854775807 := rfl
 obtain ⟨hBatch, a1, a2, a3, a4, a5, a6, _⟩ := hx
 obtain ⟨gBatch, b1, b2, b3, b4, b5, b6, _⟩ := hy
 have sBatch := c313 x.Batch y.Batch hBatch gBatch
 simp only [encBatch, List.map_cons, List.map_nil] at sBatch
 simp only [encTJob, List.map_cons, List.map_nil]
 refine Ctr.bd aa func247 rfl ?_
 refine sv40 ?_
 refine scs ?_
 refine ck e313 (sBatch) rfl ?_
 refine sv40 ?_
 refine scs ?_
 refine ck e314 (c314 x.Reads y.Reads (by omega) (by omega)) rfl ?_
 refine sv40 ?_
 refine scs ?_
 refine ck e315 (c315 x.Writes y.Writes (by omega) (by omega)) rfl ?_
 refine sv40 ?_
 refine scs ?_
 refine ck e232 (c232 x.Res y.Res (by omega) (by omega)) rfl ?_
 refine sv40 ?_
 refine scs ?_
 refine ck e316 (c316 x.New y.New (by omega) (by omega)) rfl ?_
 refine sv40 ?_
 refine scs ?_
 refine ck e316 (c316 x.Held y.Held (by omega) (by omega)) rfl ?_
 refine sv40 ?_
 refine scs ?_
 refine ck e316 (c316 x.Olds y.Olds (by omega) (by omega)) rfl ?_
 refine sv40 ?_
 refine scs ?_
 refine Fin.nt results247 [] ?_ ?_ ?_ <;> try trivial
 (refine rsl ?_; try exact .intro)
 rw [Bool.eq_iff_iff]
 simp only [TJob.eq_iff, decide_eq_true_eq]
 all_goals simp [and_assoc, Node.eq_iff, Sub.eq_iff]
theorem c217 (x y : Batch) (hx : x.sok) (hy : y.sok) : Ctr prog 217 [.agg ((encBatch x).map .dat), .agg ((encBatch y).map .dat)] [] (.one (.dat (.bool (decide (x = y))))) [] := by
 have hmx : maxLen = 9223372036854775807 := rfl
 obtain ⟨a1, _⟩ := hx
 obtain ⟨b1, _⟩ := hy
 simp only [encBatch, List.map_cons, List.map_nil]
 refine Ctr.bd aa func217 rfl ?_
 refine evl ?_
 refine scs ?_
 refine ck e289 (c289 x.Cmds y.Cmds (by omega) (by omega)) rfl ?_
 refine evl ?_
 refine scs ?_
 refine Fin.nt results217 [] ?_ ?_ ?_ <;> try trivial
 (refine rsl ?_; try exact .intro)
 rw [Bool.eq_iff_iff]
 simp only [Batch.eq_iff, decide_eq_true_eq]
 all_goals simp [and_assoc]
theorem c218 (x y : TJob) (hx : x.sok) (hy : y.sok) : Ctr prog 218 [.agg ((encTJob x).map .dat), .agg ((encTJob y).map .dat)] [] (.one (.dat (.bool (decide (x.Reads = y.Reads /\ x.Writes = y.Writes))))) [] := by
 have hmx : maxLen = 9223372036854775807 := rfl
 obtain ⟨_, a1, a2, _⟩ := hx
 obtain ⟨_, b1, b2, _⟩ := hy
 simp only [encTJob, List.map_cons, List.map_nil]
 refine Ctr.bd aa func218 rfl ?_
 refine sv18 ?_
 refine scs ?_
 constructor <;> intro h
 ·refine Fin.nt results218 [] ?_ ?_ ?_ <;> try trivial
  (refine rsl ?_; try exact .intro)
  symm; rw [decide_eq_false_iff_not]
  rintro ⟨e1, e2⟩; rw [e1, e2] at h; simp at h
 have hE : x.Reads.length = y.Reads.length /\ x.Writes.length = y.Writes.length := by
  by_cases h1 : x.Reads.length = y.Reads.length
  ·simp [h1] at h; exact ⟨h1, by omega⟩
  ·have : ¬ (x.Reads.length : Int) = y.Reads.length := by omega
   simp [this] at h
 obtain ⟨hlr, hlw⟩ := hE
 refine ab (fun zn zs => ∃ i : Nat, i <= x.Reads.length /\ zn = x.Reads.length - i /\ (x.Reads.take i = y.Reads.take i) /\ zs = mkSt [(5, .one (.dat (.int .i64 i))), (2, .one (.ptr (.own 0 0 0))), (3, .one (.ptr (.own 1 0 0)))] [.box [.dat (.bool x.Busy), .dat (.bool x.Batch.Collect), .dat (.sl 3 (x.Batch.Cmds.map encCmd)), .dat (.int .i64 x.Serial), .dat (.int .i64 x.Pc), .dat (.int .i64 x.At), .dat (.int .i64 x.K), .dat (.int .i64 x.Bkt), .dat (.int .i64 x.Ver), .dat (.int .i64 x.H), .dat (.int .i64 x.Prev), .dat (.int .i64 x.Node.Key), .dat (.int .i64 x.Node.Val), .dat (.int .i64 x.Node.Next), .dat (.bool x.Found), .dat (.int .i64 x.Code), .dat (.int .i64 x.Sub.Kind), .dat (.int .i64 x.Sub.A), .dat (.int .i64 x.Sub.Pc), .dat (.int .i64 x.Sub.E), .dat (.int .i64 x.Sub.Row), .dat (.int .i64 x.Sub.B), .dat (.int .i64 x.Sub.H), .dat (.int .i64 x.Sub.Out), .dat (.int .i64 x.Sub.Code), .dat (.bool x.Sub.Done), .dat (.sl 2 (x.Reads.map encSeen)), .dat (.sl 3 (x.Writes.map encWrite)), .dat (.sl 2 (x.Res.map encRes)), .dat (.sl 1 (x.New.map encI)), .dat (.sl 1 (x.Held.map encI)), .dat (.sl 1 (x.Olds.map encI))], .box [.dat (.bool y.Busy), .dat (.bool y.Batch.Collect), .dat (.sl 3 (y.Batch.Cmds.map encCmd)), .dat (.int .i64 y.Serial), .dat (.int .i64 y.Pc), .dat (.int .i64 y.At), .dat (.int .i64 y.K), .dat (.int .i64 y.Bkt), .dat (.int .i64 y.Ver), .dat (.int .i64 y.H), .dat (.int .i64 y.Prev), .dat (.int .i64 y.Node.Key), .dat (.int .i64 y.Node.Val), .dat (.int .i64 y.Node.Next), .dat (.bool y.Found), .dat (.int .i64 y.Code), .dat (.int .i64 y.Sub.Kind), .dat (.int .i64 y.Sub.A), .dat (.int .i64 y.Sub.Pc), .dat (.int .i64 y.Sub.E), .dat (.int .i64 y.Sub.Row), .dat (.int .i64 y.Sub.B), .dat (.int .i64 y.Sub.H), .dat (.int .i64 y.Sub.Out), .dat (.int .i64 y.Sub.Code), .dat (.bool y.Sub.Done), .dat (.sl 2 (y.Reads.map encSeen)), .dat (.sl 3 (y.Writes.map encWrite)), .dat (.sl 2 (y.Res.map encRes)), .dat (.sl 1 (y.New.map encI)), .dat (.sl 1 (y.Held.map encI)), .dat (.sl 1 (y.Olds.map encI))]]) (x.Reads.length) _
  (Ent.wk [0, 1]) ⟨0, by omega, by omega, rfl, rfl⟩ ?_
 rintro zn zs ⟨i, hi, rfl, hinv, rfl⟩ K hK
 rcases Nat.lt_or_ge i (x.Reads.length) with hlt | hge
 ·have hdi : decide ((i : Int) < ((x.Reads.length : Nat) : Int)) = true := decide_eq_true (by omega)
  have hw := ah hlt (show x.Reads.length <= maxLen by omega)
  have hlt' : i < y.Reads.length := by omega
  simp (maxSteps := 2000000) only [go_sem, seval, hdi, hw, getD_map hlt, getD_map hlt', encSeen]
  refine scs ?_
  constructor <;> intro hq
  ·have hne : x.Reads[i] ≠ y.Reads[i] := fun e => by rw [e] at hq; simp at hq
   apply hK
   simp (maxSteps := 2000000) only [go_sem, seval, hdi, hw, getD_map hlt, getD_map hlt', encSeen]
   refine Fin.nt results218 [] ?_ ?_ ?_ <;> try trivial
   (refine rsl ?_; try exact .intro)
   symm; rw [decide_eq_false_iff_not]
   rintro ⟨e1, e2⟩; exact hne (by simp only [e1])
  ·have he : x.Reads[i] = y.Reads[i] := by rw [Seen.eq_iff]; simpa [and_assoc] using hq
   (apply hK
    exact ⟨x.Reads.length - (i + 1), _, by omega, Ent.wk [0, 1], i + 1, by omega, rfl, by rw [List.take_succ_eq_append_getElem hlt, List.take_succ_eq_append_getElem hlt', hinv, he], rfl⟩)
 ·have hge' : x.Reads.length = i := by omega
  subst hge'
  have hdi : decide (((x.Reads.length : Nat) : Int) < ((x.Reads.length : Nat) : Int)) = false := by simp
  have htReads : x.Reads = y.Reads := by
   rw [List.take_of_length_le (Nat.le_refl _), List.take_of_length_le (by omega)] at hinv
   exact hinv
  clear hinv
  refine sv3 ?_
  apply hK
  refine evl ?_
  refine ab (fun zn zs => ∃ i : Nat, i <= x.Writes.length /\ zn = x.Writes.length - i /\ (x.Writes.take i = y.Writes.take i) /\ zs = mkSt [(6, .one (.dat (.int .i64 i))), (2, .one (.ptr (.own 0 0 0))), (3, .one (.ptr (.own 1 0 0)))] [.box [.dat (.bool x.Busy), .dat (.bool x.Batch.Collect), .dat (.sl 3 (x.Batch.Cmds.map encCmd)), .dat (.int .i64 x.Serial), .dat (.int .i64 x.Pc), .dat (.int .i64 x.At), .dat (.int .i64 x.K), .dat (.int .i64 x.Bkt), .dat (.int .i64 x.Ver), .dat (.int .i64 x.H), .dat (.int .i64 x.Prev), .dat (.int .i64 x.Node.Key), .dat (.int .i64 x.Node.Val), .dat (.int .i64 x.Node.Next), .dat (.bool x.Found), .dat (.int .i64 x.Code), .dat (.int .i64 x.Sub.Kind), .dat (.int .i64 x.Sub.A), .dat (.int .i64 x.Sub.Pc), .dat (.int .i64 x.Sub.E), .dat (.int .i64 x.Sub.Row), .dat (.int .i64 x.Sub.B), .dat (.int .i64 x.Sub.H), .dat (.int .i64 x.Sub.Out), .dat (.int .i64 x.Sub.Code), .dat (.bool x.Sub.Done), .dat (.sl 2 (x.Reads.map encSeen)), .dat (.sl 3 (x.Writes.map encWrite)), .dat (.sl 2 (x.Res.map encRes)), .dat (.sl 1 (x.New.map encI)), .dat (.sl 1 (x.Held.map encI)), .dat (.sl 1 (x.Olds.map encI))], .box [.dat (.bool y.Busy), .dat (.bool y.Batch.Collect), .dat (.sl 3 (y.Batch.Cmds.map encCmd)), .dat (.int .i64 y.Serial), .dat (.int .i64 y.Pc), .dat (.int .i64 y.At), .dat (.int .i64 y.K), .dat (.int .i64 y.Bkt), .dat (.int .i64 y.Ver), .dat (.int .i64 y.H), .dat (.int .i64 y.Prev), .dat (.int .i64 y.Node.Key), .dat (.int .i64 y.Node.Val), .dat (.int .i64 y.Node.Next), .dat (.bool y.Found), .dat (.int .i64 y.Code), .dat (.int .i64 y.Sub.Kind), .dat (.int .i64 y.Sub.A), .dat (.int .i64 y.Sub.Pc), .dat (.int .i64 y.Sub.E), .dat (.int .i64 y.Sub.Row), .dat (.int .i64 y.Sub.B), .dat (.int .i64 y.Sub.H), .dat (.int .i64 y.Sub.Out), .dat (.int .i64 y.Sub.Code), .dat (.bool y.Sub.Done), .dat (.sl 2 (y.Reads.map encSeen)), .dat (.sl 3 (y.Writes.map encWrite)), .dat (.sl 2 (y.Res.map encRes)), .dat (.sl 1 (y.New.map encI)), .dat (.sl 1 (y.Held.map encI)), .dat (.sl 1 (y.Olds.map encI))]]) (x.Writes.length) _
   (Ent.wk [0, 1]) ⟨0, by omega, by omega, rfl, rfl⟩ ?_
  rintro zn zs ⟨i, hi, rfl, hinv, rfl⟩ K hK
  rcases Nat.lt_or_ge i (x.Writes.length) with hlt | hge
  ·have hdi : decide ((i : Int) < ((x.Writes.length : Nat) : Int)) = true := decide_eq_true (by omega)
   have hw := ah hlt (show x.Writes.length <= maxLen by omega)
   have hlt' : i < y.Writes.length := by omega
   simp (maxSteps := 2000000) only [go_sem, seval, hdi, hw, getD_map hlt, getD_map hlt', encWrite]
   refine scs ?_
   constructor <;> intro hq
   ·have hne : x.Writes[i] ≠ y.Writes[i] := fun e => by rw [e] at hq; simp at hq
    apply hK
    simp (maxSteps := 2000000) only [go_sem, seval, hdi, hw, getD_map hlt, getD_map hlt', encWrite]
    refine Fin.nt results218 [] ?_ ?_ ?_ <;> try trivial
    (refine rsl ?_; try exact .intro)
    symm; rw [decide_eq_false_iff_not]
    rintro ⟨e1, e2⟩; exact hne (by simp only [e2])
   ·have he : x.Writes[i] = y.Writes[i] := by rw [Write.eq_iff]; simpa [and_assoc] using hq
    (apply hK
     exact ⟨x.Writes.length - (i + 1), _, by omega, Ent.wk [0, 1], i + 1, by omega, rfl, by rw [List.take_succ_eq_append_getElem hlt, List.take_succ_eq_append_getElem hlt', hinv, he], rfl⟩)
  ·have hge' : x.Writes.length = i := by omega
   subst hge'
   have hdi : decide (((x.Writes.length : Nat) : Int) < ((x.Writes.length : Nat) : Int)) = false := by simp
   have htWrites : x.Writes = y.Writes := by
    rw [List.take_of_length_le (Nat.le_refl _), List.take_of_length_le (by omega)] at hinv
    exact hinv
   clear hinv
   refine sv3 ?_
   apply hK
   refine evl ?_
   refine Fin.nt results218 [] ?_ ?_ ?_ <;> try trivial
   (refine rsl ?_; try exact .intro)
   symm; rw [decide_eq_true_iff]
   exact ⟨htReads, htWrites⟩
theorem c129 (x y : TJob) (hx : x.sok) (hy : y.sok) : Ctr prog 129 [.agg ((encTJob x).map .dat), .agg ((encTJob y).map .dat)] [] (.one (.dat (.bool (decide (x = y))))) [] := by
 have hmx : maxLen = 9223372036854775807 := rfl
 have sSets := c218 x y hx hy
 simp only [encTJob, List.map_cons, List.map_nil] at sSets
 obtain ⟨hBatch, a1, a2, a3, a4, a5, a6, _⟩ := hx
 obtain ⟨gBatch, b1, b2, b3, b4, b5, b6, _⟩ := hy
 have sBatch := c217 x.Batch y.Batch hBatch gBatch
 simp only [encBatch, List.map_cons, List.map_nil] at sBatch
 simp only [encTJob, List.map_cons, List.map_nil]
 refine Ctr.bd aa func129 rfl ?_
 refine sv40 ?_
 refine scs ?_
 refine ck e217 (sBatch) rfl ?_
 refine sv40 ?_
 refine scs ?_
 refine ck e218 (sSets) rfl ?_
 refine sv40 ?_
 refine scs ?_
 refine ck e209 (c209 x.Res y.Res (by omega) (by omega)) rfl ?_
 refine sv40 ?_
 refine scs ?_
 refine ck e219 (c219 x.New y.New (by omega) (by omega)) rfl ?_
 refine sv40 ?_
 refine scs ?_
 refine ck e219 (c219 x.Held y.Held (by omega) (by omega)) rfl ?_
 refine sv40 ?_
 refine scs ?_
 refine ck e219 (c219 x.Olds y.Olds (by omega) (by omega)) rfl ?_
 refine sv40 ?_
 refine scs ?_
 refine Fin.nt results129 [] ?_ ?_ ?_ <;> try trivial
 (refine rsl ?_; try exact .intro)
 rw [Bool.eq_iff_iff]
 simp only [TJob.eq_iff, decide_eq_true_eq]
 all_goals simp [and_assoc, Node.eq_iff, Sub.eq_iff]
end Go.Proofs.YtkmmgklnoagedaaGreat.Mod
