/- Contracts: Idle. -/
import Derived.Test.YtjfpaiencojehaaGreatRows
import Derived.Test.YtjfpaiencojehaaGreatTy
import Derived.Test.YtjfpaiencojehaaGreatAbsTac
import Derived.Test.YtjfpaiencojehaaGreatAbsData
import Derived.Test.YtjfpaiencojehaaGreatMNum
import Derived.Test.YtjfpaiencojehaaGreatMSl2
import Derived.Test.YtjfpaiencojehaaGreatMFam3
import Derived.WalkKit
import Derived.ProofKit
import Derived.OpenShut
namespace Go.Proofs.YtjfpaiencojehaaGreat.Mod
open Go.Abs Go.Proofs.YtjfpaiencojehaaGreat.Ty Go.ChangeShapes Go.WideShapes Go.ChangeAt Go.RowKit
set_option linter.unusedSimpArgs false
set_option linter.unusedVariables false
set_option maxHeartbeats 8000000
set_option maxRecDepth 100000
def idleM (t : Table) : Bool := !(t.Jobs.any fun j => j.Busy) && !(t.Todo.any fun q => decide (0 < (q.List.length : Int)))
theorem c23 (x : TJob) : Ctr Tryz.prog 23 [.agg ((encTJob x).map .dat)] [] (.one (.dat (.bool x.Busy))) [] := by
  simp only [encTJob, List.map_cons, List.map_nil]
  refine Ctr.bd mixed Tryz.func23 rfl ?_
  refine evl ?_
  repeat ((with_reducible show _ ∧ _); refine scA ?_)
  refine Fin.nt Tryz.results23 [] ?_ ?_ ?_ <;> try trivial
theorem c25 (x : TQueue) : Ctr Tryz.prog 25 [.agg ((encTQueue x).map .dat)] [] (.one (.dat (.bool (decide (0 < (x.List.length : Int)))))) [] := by
  simp only [encTQueue, List.map_cons, List.map_nil]
  refine Ctr.bd mixed Tryz.func25 rfl ?_
  refine evl ?_
  repeat ((with_reducible show _ ∧ _); refine scA ?_)
  refine Fin.nt Tryz.results25 [] ?_ ?_ ?_ <;> try trivial
theorem c8 (t : Table) (hz : sizTable t ≤ 1048576) : Ctr Tryz.prog 8 [.agg ((encTable t).map .dat)] [] (.one (.dat (.bool (idleM t)))) [] := by
  have hj : t.Jobs.length ≤ maxLen ∧ t.Todo.length ≤ maxLen := by
    have hmx : maxLen = 9223372036854775807 := rfl
    unfold sizTable sizTJobS sizTQueueS at hz; omega
  simp only [encTable, List.map_cons, List.map_nil]
  refine Ctr.bd mixed Tryz.func8 rfl ?_
  refine evl ?_
  repeat ((with_reducible show _ ∧ _); refine scA ?_)
  first | refine CallK_pure e22 (c22_k0 t.Jobs hj.1 e23 (fun x _ => c23 x)) rfl ?_ | refine EffK_pw e22 (c22_k0 t.Jobs hj.1 e23 (fun x _ => c23 x)) rfl ?_ | refine EffK_pu e22 (c22_k0 t.Jobs hj.1 e23 (fun x _ => c23 x)) rfl ?_ | refine CCallK_pl e22 (c22_k0 t.Jobs hj.1 e23 (fun x _ => c23 x)) rfl rfl ?_ | refine CCallK_pm e22 (c22_k0 t.Jobs hj.1 e23 (fun x _ => c23 x)) rfl rfl ?_
  refine evl ?_
  repeat ((with_reducible show _ ∧ _); refine scA ?_)
  first | refine CallK_pure e24 (c24_k0 t.Todo hj.2 e25 (fun x _ => c25 x)) rfl ?_ | refine EffK_pw e24 (c24_k0 t.Todo hj.2 e25 (fun x _ => c25 x)) rfl ?_ | refine EffK_pu e24 (c24_k0 t.Todo hj.2 e25 (fun x _ => c25 x)) rfl ?_ | refine CCallK_pl e24 (c24_k0 t.Todo hj.2 e25 (fun x _ => c25 x)) rfl rfl ?_ | refine CCallK_pm e24 (c24_k0 t.Todo hj.2 e25 (fun x _ => c25 x)) rfl rfl ?_
  refine evl ?_
  repeat ((with_reducible show _ ∧ _); refine scA ?_)
  refine Fin.nt Tryz.results8 [] ?_ ?_ ?_ <;> try trivial
  first | exact True.intro | (refine rsl ?_; try exact True.intro)
  rw [idleM]
  cases (t.Jobs.any fun j => j.Busy) <;> rfl
theorem c6 (t : Table) (hz : sizTable t ≤ 1048576) : Ctr Tryz.prog 6 [.agg ((encTable t).map .dat)] [] (.one (.dat (.bool (idleM t)))) [] := by
  have hj : t.Jobs.length ≤ maxLen ∧ t.Todo.length ≤ maxLen := by
    have hmx : maxLen = 9223372036854775807 := rfl
    unfold sizTable sizTJobS sizTQueueS at hz; omega
  simp only [encTable, List.map_cons, List.map_nil]
  refine Ctr.bd mixed Tryz.func6 rfl ?_
  refine evl ?_
  repeat ((with_reducible show _ ∧ _); refine scA ?_)
  refine LoopK_intro (fun zn zs => ∃ i : Nat, i ≤ t.Jobs.length ∧ zn = t.Jobs.length - i ∧ ((t.Jobs.any fun j => j.Busy) = ((t.Jobs.drop i).any fun j => j.Busy)) ∧ zs = mkSt [(3, .one (.dat (.int .i64 i))), (1, .one (.ptr (.own 0 0 0)))] [.box [.dat (.sl 1 (t.Base.Mem.Heap.Bytes.map encI)), .dat (.sl 1 (t.Base.Mem.Heap.Class.map encI)), .dat (.sl 1 (t.Base.Mem.Lists.Global.map encSList)), .dat (.sl 1 (t.Base.Mem.Lists.Own.map encSList)), .dat (.int .i64 t.Base.Clock.Epoch), .dat (.sl 4 (t.Base.Clock.Pins.map encPin)), .dat (.sl 1 (t.Base.Limbo.map encLList)), .dat (.sl 1 (t.Base.Haz.map encI)), .dat (.sl 3 (t.Bkts.map encBkt)), .dat (.sl 32 (t.Jobs.map encTJob)), .dat (.sl 1 (t.Todo.map encTQueue)), .dat (.sl 6 (t.Log.map encTEv)), .dat (.int .i64 t.Serial)]]) (t.Jobs.length) _
    (Ent.wk [0]) ⟨0, by omega, by omega, rfl, rfl⟩ ?_
  rintro zn zs ⟨i, hi, rfl, hinv, rfl⟩ K hK
  rcases Nat.lt_or_ge i (t.Jobs.length) with hlt | hge
  · have hdi : decide ((i : Int) < ((t.Jobs.length : Nat) : Int)) = true := decide_eq_true (by omega)
    have hw := wrap_succ hlt hj.1
    rw [List.drop_eq_getElem_cons hlt, List.any_cons] at hinv
    simp (maxSteps := 2000000) only [go_sem, ↓reduceIte, reduceCtorEq, Nat.reduceAdd, Nat.reduceMul, Nat.reduceSub, Nat.reduceLT, Nat.reduceLeDiff, Nat.reduceEqDiff, Int.reduceToNat, Int.reduceLT, Int.reduceLE, Int.reduceNeg, hdi, hw, getD_map hlt, encTJob, List.length_map]
    repeat ((with_reducible show _ ∧ _); refine scA ?_)
    refine ⟨fun hq => ?_, fun hq => ?_⟩
    · rw [hq, Bool.true_or] at hinv
      apply hK
      simp (maxSteps := 2000000) only [go_sem, ↓reduceIte, reduceCtorEq, Nat.reduceAdd, Nat.reduceMul, Nat.reduceSub, Nat.reduceLT, Nat.reduceLeDiff, Nat.reduceEqDiff, Int.reduceToNat, Int.reduceLT, Int.reduceLE, Int.reduceNeg, hdi, hw, getD_map hlt, encTJob, List.length_map]
      refine Fin.nt Tryz.results6 [] ?_ ?_ ?_ <;> try trivial
      first | exact True.intro | (refine rsl ?_; try exact True.intro)
      rw [idleM, hinv]; rfl
    · rw [hq, Bool.false_or] at hinv
      (apply hK
       exact ⟨t.Jobs.length - (i + 1), _, by omega, Ent.wk [0], i + 1, by omega, rfl, hinv, rfl⟩)
  · have hge' : t.Jobs.length = i := by omega
    subst hge'
    have hdi : decide (((t.Jobs.length : Nat) : Int) < ((t.Jobs.length : Nat) : Int)) = false := by simp
    rw [List.drop_length, List.any_nil] at hinv
    have hjobs := hinv
    clear hinv
    simp (maxSteps := 2000000) only [go_sem, ↓reduceIte, reduceCtorEq, Nat.reduceAdd, Nat.reduceMul, Nat.reduceSub, Nat.reduceLT, Nat.reduceLeDiff, Nat.reduceEqDiff, Int.reduceToNat, Int.reduceLT, Int.reduceLE, Int.reduceNeg, hdi, List.length_map]
    apply hK
    refine evl ?_
    refine LoopK_intro (fun zn zs => ∃ i : Nat, i ≤ t.Todo.length ∧ zn = t.Todo.length - i ∧ ((t.Todo.any fun q => decide (0 < (q.List.length : Int))) = ((t.Todo.drop i).any fun q => decide (0 < (q.List.length : Int)))) ∧ zs = mkSt [(4, .one (.dat (.int .i64 i))), (1, .one (.ptr (.own 0 0 0)))] [.box [.dat (.sl 1 (t.Base.Mem.Heap.Bytes.map encI)), .dat (.sl 1 (t.Base.Mem.Heap.Class.map encI)), .dat (.sl 1 (t.Base.Mem.Lists.Global.map encSList)), .dat (.sl 1 (t.Base.Mem.Lists.Own.map encSList)), .dat (.int .i64 t.Base.Clock.Epoch), .dat (.sl 4 (t.Base.Clock.Pins.map encPin)), .dat (.sl 1 (t.Base.Limbo.map encLList)), .dat (.sl 1 (t.Base.Haz.map encI)), .dat (.sl 3 (t.Bkts.map encBkt)), .dat (.sl 32 (t.Jobs.map encTJob)), .dat (.sl 1 (t.Todo.map encTQueue)), .dat (.sl 6 (t.Log.map encTEv)), .dat (.int .i64 t.Serial)]]) (t.Todo.length) _
      (Ent.wk [0]) ⟨0, by omega, by omega, rfl, rfl⟩ ?_
    rintro zn zs ⟨i, hi, rfl, hinv, rfl⟩ K hK
    rcases Nat.lt_or_ge i (t.Todo.length) with hlt | hge
    · have hdi : decide ((i : Int) < ((t.Todo.length : Nat) : Int)) = true := decide_eq_true (by omega)
      have hw := wrap_succ hlt hj.2
      rw [List.drop_eq_getElem_cons hlt, List.any_cons] at hinv
      simp (maxSteps := 2000000) only [go_sem, ↓reduceIte, reduceCtorEq, Nat.reduceAdd, Nat.reduceMul, Nat.reduceSub, Nat.reduceLT, Nat.reduceLeDiff, Nat.reduceEqDiff, Int.reduceToNat, Int.reduceLT, Int.reduceLE, Int.reduceNeg, hdi, hw, getD_map hlt, encTQueue, List.length_map]
      repeat ((with_reducible show _ ∧ _); refine scA ?_)
      refine ⟨fun hq => ?_, fun hq => ?_⟩
      · rw [hq, Bool.true_or] at hinv
        apply hK
        simp (maxSteps := 2000000) only [go_sem, ↓reduceIte, reduceCtorEq, Nat.reduceAdd, Nat.reduceMul, Nat.reduceSub, Nat.reduceLT, Nat.reduceLeDiff, Nat.reduceEqDiff, Int.reduceToNat, Int.reduceLT, Int.reduceLE, Int.reduceNeg, hdi, hw, getD_map hlt, encTQueue, List.length_map]
        refine Fin.nt Tryz.results6 [] ?_ ?_ ?_ <;> try trivial
        first | exact True.intro | (refine rsl ?_; try exact True.intro)
        rw [idleM, hinv]; simp
      · rw [hq, Bool.false_or] at hinv
        (apply hK
         exact ⟨t.Todo.length - (i + 1), _, by omega, Ent.wk [0], i + 1, by omega, rfl, hinv, rfl⟩)
    · have hge' : t.Todo.length = i := by omega
      subst hge'
      have hdi : decide (((t.Todo.length : Nat) : Int) < ((t.Todo.length : Nat) : Int)) = false := by simp
      rw [List.drop_length, List.any_nil] at hinv
      have htodo := hinv
      clear hinv
      simp (maxSteps := 2000000) only [go_sem, ↓reduceIte, reduceCtorEq, Nat.reduceAdd, Nat.reduceMul, Nat.reduceSub, Nat.reduceLT, Nat.reduceLeDiff, Nat.reduceEqDiff, Int.reduceToNat, Int.reduceLT, Int.reduceLE, Int.reduceNeg, hdi, List.length_map]
      apply hK
      refine evl ?_
      refine Fin.nt Tryz.results6 [] ?_ ?_ ?_ <;> try trivial
      first | exact True.intro | (refine rsl ?_; try exact True.intro)
      rw [idleM, hjobs, htodo]; rfl
def rowsOf (l : List LList) : List LRow := (l.map (·.Rows)).flatten
def waitingM (s : Shelf) : List Int := (rowsOf s.Base.Limbo).map (·.Handle)
theorem rowsOf_drop {l : List LList} {i : Nat} (h : i < l.length) : rowsOf (l.drop i) = l[i].Rows ++ rowsOf (l.drop (i + 1)) := by
  unfold rowsOf
  rw [List.drop_eq_getElem_cons h, List.map_cons, List.flatten_cons]
theorem rowsOf_len (l : List LList) : (rowsOf l).length = (l.map sizLList).sum := by
  induction l with
  | nil => rfl
  | cons x l ih => simp only [rowsOf, List.map_cons, List.flatten_cons, List.length_append, List.sum_cons] at ih ⊢; rw [ih]; rfl
theorem limbo_len {s : Shelf} (hz : sizShelf s ≤ 1048576) : s.Base.Limbo.length ≤ 1048576 ∧ (rowsOf s.Base.Limbo).length ≤ 1048576 := by
  rw [rowsOf_len]
  unfold sizShelf sizBase sizLListS at hz; omega
theorem waiting_len {s : Shelf} (hz : sizShelf s ≤ 1048576) : (waitingM s).length ≤ 1048576 := by
  rw [waitingM, List.length_map]; exact (limbo_len hz).2
end Go.Proofs.YtjfpaiencojehaaGreat.Mod
