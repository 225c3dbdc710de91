/- Contracts: Idle. -/
import Derived.Test.YtjfpaiencojehaaRows
import Derived.Test.YtjfpaiencojehaaTy
import Derived.Test.YtjfpaiencojehaaAbsTac
import Derived.Test.YtjfpaiencojehaaAbsData
import Derived.Test.YtjfpaiencojehaaMNum
import Derived.Test.YtjfpaiencojehaaMSl2
import Derived.Test.YtjfpaiencojehaaMFam3
import Derived.WalkKit
import Derived.ProofKit
import Derived.OpenShut
namespace Go.Proofs.Ytjfpaiencojehaa.Mod
open Go.Abs Go.Proofs.Ytjfpaiencojehaa.Ty Go.ChangeShapes Go.WideShapes Go.ChangeAt Go.RowKit
set_option linter.unusedSimpArgs false
set_option linter.unusedVariables false
set_option maxHeartbeats 8000000
set_option maxRecDepth 100000
def idleM (t : Table) : Bool := !(t.Jobs.any fun j => j.Busy) && !(t.Todo.any fun q => decide (0 < (q.List.length : Int)))
def rowsOf (l : List LList) : List LRow := (l.map (·.Rows)).flatten
def waitingM (s : Shelf) : List Int := (rowsOf s.Base.Limbo).map (·.Handle)
theorem rowsOf_drop {l : List LList} {i : Nat} (h : i < l.length) : rowsOf (l.drop i) = l[i].Rows ++ rowsOf (l.drop (i + 1)) := by
  unfold rowsOf
  rw [List.drop_eq_getElem_cons h, List.map_cons, List.flatten_cons]
theorem rowsOf_len (l : List LList) : (rowsOf l).length = (l.map sizLList).sum := by
  induction l with
  | nil => rfl
  | cons x l ih => simp only [rowsOf, List.map_cons, List.flatten_cons, List.length_append, List.sum_cons] at ih ⊢; rw [ih]; rfl
theorem limbo_len {s : Shelf} (hz : sizShelf s ≤ 1048576) : s.Base.Limbo.length ≤ 1048576 ∧ (rowsOf s.Base.Limbo).length ≤ 1048576 := by
  rw [rowsOf_len]
  unfold sizShelf sizBase sizLListS at hz; omega
theorem waiting_len {s : Shelf} (hz : sizShelf s ≤ 1048576) : (waitingM s).length ≤ 1048576 := by
  rw [waitingM, List.length_map]; exact (limbo_len hz).2
theorem c20 (s : Shelf) (hz : sizShelf s ≤ 1048576) : Ctr Try.prog 20 [.agg ((encShelf s).map .dat)] [] (.one (.own 0)) [.vec 1 true ((waitingM s).map encI)] := by
  have hmx : maxLen = 9223372036854775807 := rfl
  obtain ⟨hl1, hl2⟩ := limbo_len hz
  obtain ⟨L, hL⟩ : ∃ L, L = s.Base.Limbo := ⟨_, rfl⟩
  rw [← hL] at hl1 hl2
  unfold waitingM
  simp only [encShelf, List.map_cons, List.map_nil]
  refine Ctr.bd mixed Try.func20 rfl ?_
  simp (maxSteps := 2000000) only [go_sem, ↓reduceIte, reduceCtorEq, Nat.reduceAdd, Nat.reduceMul, Nat.reduceSub, Nat.reduceLT, Nat.reduceLeDiff, Nat.reduceEqDiff, Int.reduceToNat, Int.reduceLT, Int.reduceLE, Int.reduceNeg, List.length_map]
  repeat ((with_reducible show _ ∧ _); refine scA ?_)
  rw [← hL]
  refine LoopK_intro (fun zn zs => ∃ (i : Nat) (o : List Int), i ≤ L.length ∧ zn = L.length - i ∧ ((rowsOf L).map (·.Handle) = o ++ (rowsOf (L.drop i)).map (·.Handle)) ∧ zs = mkSt [(13, .one (.dat (.int .i64 i))), (12, .one (.dat (.int .i64 (L.length)))), (11, .one (.dat (.sl 1 (L.map encLList)))), (3, .one (.own 1))] [.box [.dat (.sl 1 (s.Base.Mem.Heap.Bytes.map encI)), .dat (.sl 1 (s.Base.Mem.Heap.Class.map encI)), .dat (.sl 1 (s.Base.Mem.Lists.Global.map encSList)), .dat (.sl 1 (s.Base.Mem.Lists.Own.map encSList)), .dat (.int .i64 s.Base.Clock.Epoch), .dat (.sl 4 (s.Base.Clock.Pins.map encPin)), .dat (.sl 1 (L.map encLList)), .dat (.sl 1 (s.Base.Haz.map encI)), .dat (.sl 1 (s.Cells.map encI)), .dat (.sl 21 (s.Jobs.map encJob)), .dat (.sl 1 (s.Todo.map encQueue)), .dat (.sl 7 (s.Log.map encEv)), .dat (.int .i64 s.Serial)], .vec 1 true (o.map encI)]) (L.length) _
    (Ent.wk [0, 1]) ⟨0, [], by omega, by omega, rfl, rfl⟩ ?_
  rintro zn zs ⟨i, o, hi, rfl, hinv, rfl⟩ K hK
  rcases Nat.lt_or_ge i (L.length) with hlt | hge
  · have hdi : decide ((i : Int) < ((L.length : Nat) : Int)) = true := decide_eq_true (by omega)
    have hw := wrap_succ hlt (show L.length ≤ maxLen by omega)
    rw [rowsOf_drop hlt, List.map_append] at hinv
    have hlen : o.length + L[i].Rows.length ≤ 1048576 := by
      have := congrArg List.length hinv
      simp only [List.length_append, List.length_map] at this
      omega
    simp (maxSteps := 2000000) only [go_sem, ↓reduceIte, reduceCtorEq, Nat.reduceAdd, Nat.reduceMul, Nat.reduceSub, Nat.reduceLT, Nat.reduceLeDiff, Nat.reduceEqDiff, Int.reduceToNat, Int.reduceLT, Int.reduceLE, Int.reduceNeg, hdi, hw, getD_map hlt, encLList, List.length_map]
    repeat ((with_reducible show _ ∧ _); refine scA ?_)
    generalize hR : L[i].Rows = R at hinv hlen ⊢
    refine LoopK_intro (fun zn zs => ∃ (k : Nat) (q : List Int), k ≤ R.length ∧ zn = R.length - k ∧ (o ++ R.map (·.Handle) = q ++ (R.drop k).map (·.Handle)) ∧ zs = mkSt [(20, .one (.dat (.int .i64 k))), (19, .one (.dat (.int .i64 (R.length)))), (18, .one (.dat (.sl 2 (R.map encLRow)))), (3, .one (.own 1)), (11, .one (.dat (.sl 1 (L.map encLList)))), (12, .one (.dat (.int .i64 (L.length : Nat)))), (13, .one (.dat (.int .i64 i)))] [.box [.dat (.sl 1 (s.Base.Mem.Heap.Bytes.map encI)), .dat (.sl 1 (s.Base.Mem.Heap.Class.map encI)), .dat (.sl 1 (s.Base.Mem.Lists.Global.map encSList)), .dat (.sl 1 (s.Base.Mem.Lists.Own.map encSList)), .dat (.int .i64 s.Base.Clock.Epoch), .dat (.sl 4 (s.Base.Clock.Pins.map encPin)), .dat (.sl 1 (L.map encLList)), .dat (.sl 1 (s.Base.Haz.map encI)), .dat (.sl 1 (s.Cells.map encI)), .dat (.sl 21 (s.Jobs.map encJob)), .dat (.sl 1 (s.Todo.map encQueue)), .dat (.sl 7 (s.Log.map encEv)), .dat (.int .i64 s.Serial)], .vec 1 true (q.map encI)]) (R.length) _
      (Ent.wk [0, 1]) ⟨0, o, by omega, by omega, rfl, rfl⟩ ?_
    rintro zn zs ⟨k, q, hi2, rfl, hinv2, rfl⟩ K2 hK2
    rcases Nat.lt_or_ge k (R.length) with hlt2 | hge2
    · have hdi2 : decide ((k : Int) < ((R.length : Nat) : Int)) = true := decide_eq_true (by omega)
      have hw2 := wrap_succ hlt2 (show R.length ≤ maxLen by omega)
      rw [List.drop_eq_getElem_cons hlt2, List.map_cons] at hinv2
      have hlq : q.length + 1 ≤ 1048576 := by
        have := congrArg List.length hinv2
        simp only [List.length_append, List.length_map, List.length_cons] at this
        omega
      simp (maxSteps := 2000000) only [go_sem, ↓reduceIte, reduceCtorEq, Nat.reduceAdd, Nat.reduceMul, Nat.reduceSub, Nat.reduceLT, Nat.reduceLeDiff, Nat.reduceEqDiff, Int.reduceToNat, Int.reduceLT, Int.reduceLE, Int.reduceNeg, hdi2, hw2, getD_map hlt2, encLRow, List.length_map]
      repeat ((with_reducible show _ ∧ _); refine scA ?_)
      (apply hK2
       exact ⟨R.length - (k + 1), _, by omega, Ent.wk [0, 4], k + 1, (q ++ [R[k].Handle]), by omega, rfl, by rw [List.append_assoc]; exact hinv2, rfl⟩)
    · have hge2' : R.length = k := by omega
      subst hge2'
      have hdi2 : decide (((R.length : Nat) : Int) < ((R.length : Nat) : Int)) = false := by simp
      rw [List.drop_length, List.map_nil, List.append_nil] at hinv2
      simp (maxSteps := 2000000) only [go_sem, ↓reduceIte, reduceCtorEq, Nat.reduceAdd, Nat.reduceMul, Nat.reduceSub, Nat.reduceLT, Nat.reduceLeDiff, Nat.reduceEqDiff, Int.reduceToNat, Int.reduceLT, Int.reduceLE, Int.reduceNeg, hdi2, List.length_map]
      apply hK2
      simp (maxSteps := 2000000) only [go_sem, ↓reduceIte, reduceCtorEq, Nat.reduceAdd, Nat.reduceMul, Nat.reduceSub, Nat.reduceLT, Nat.reduceLeDiff, Nat.reduceEqDiff, Int.reduceToNat, Int.reduceLT, Int.reduceLE, Int.reduceNeg, hw]
      (apply hK
       exact ⟨L.length - (i + 1), _, by omega, Ent.wk [0, 1], i + 1, q, by omega, rfl, by rw [hinv, ← List.append_assoc, hinv2], rfl⟩)
  · have hge' : L.length = i := by omega
    subst hge'
    have hdi : decide (((L.length : Nat) : Int) < ((L.length : Nat) : Int)) = false := by simp
    have hre : (rowsOf L).map (·.Handle) = o := by rw [hinv, List.drop_length]; simp [rowsOf]
    clear hinv
    simp (maxSteps := 2000000) only [go_sem, ↓reduceIte, reduceCtorEq, Nat.reduceAdd, Nat.reduceMul, Nat.reduceSub, Nat.reduceLT, Nat.reduceLeDiff, Nat.reduceEqDiff, Int.reduceToNat, Int.reduceLT, Int.reduceLE, Int.reduceNeg, hdi, List.length_map]
    apply hK
    refine evl ?_
    rw [hre]
    refine Fin.nt Try.results20 [1] ?_ ?_ ?_ <;> try trivial
    all_goals simp [objsLe, envLe, find, St.obj, AObj.renF, AV.renF, AV.renF1, Leaf.renF, LowAll, AV.Low, AV.Low1, Leaf.Low, AObj.Low, Ptr.renF, Ptr.Low]
theorem c40 (L : List LList) (hl1 : L.length ≤ 1048576) (hl2 : (rowsOf L).length ≤ 1048576) : Ctr Try.prog 40 [.one (.dat (.sl 1 (L.map encLList)))] [] (.one (.own 0)) [.vec 2 true ((rowsOf L).map encLRow)] := by
  have hmx : maxLen = 9223372036854775807 := rfl
  refine Ctr.bd mixed Try.func40 rfl ?_
  simp (maxSteps := 2000000) only [go_sem, ↓reduceIte, reduceCtorEq, Nat.reduceAdd, Nat.reduceMul, Nat.reduceSub, Nat.reduceLT, Nat.reduceLeDiff, Nat.reduceEqDiff, Int.reduceToNat, Int.reduceLT, Int.reduceLE, Int.reduceNeg, List.length_map]
  repeat ((with_reducible show _ ∧ _); refine scA ?_)
  refine LoopK_intro (fun zn zs => ∃ (i : Nat) (o : List LRow), i ≤ L.length ∧ zn = L.length - i ∧ (rowsOf L = o ++ rowsOf (L.drop i)) ∧ zs = mkSt [(4, .one (.dat (.int .i64 i))), (3, .one (.own 0)), (0, .one (.dat (.sl 1 (L.map encLList))))] [.vec 2 true (o.map encLRow)]) (L.length) _
    (Ent.wk [0]) ⟨0, [], by omega, by omega, rfl, rfl⟩ ?_
  rintro zn zs ⟨i, o, hi, rfl, hinv, rfl⟩ K hK
  rcases Nat.lt_or_ge i (L.length) with hlt | hge
  · have hdi : decide ((i : Int) < ((L.length : Nat) : Int)) = true := decide_eq_true (by omega)
    have hw := wrap_succ hlt (show L.length ≤ maxLen by omega)
    rw [rowsOf_drop hlt] at hinv
    have hlen : o.length + L[i].Rows.length ≤ 1048576 := by
      have := congrArg List.length hinv
      simp only [List.length_append] at this
      omega
    simp (maxSteps := 2000000) only [go_sem, ↓reduceIte, reduceCtorEq, Nat.reduceAdd, Nat.reduceMul, Nat.reduceSub, Nat.reduceLT, Nat.reduceLeDiff, Nat.reduceEqDiff, Int.reduceToNat, Int.reduceLT, Int.reduceLE, Int.reduceNeg, hdi, hw, getD_map hlt, encLList, List.length_map]
    have hfl : ∀ r ∈ L[i].Rows.map encLRow, ∀ d ∈ r, d.flat = true := by
      intro r hr d hd
      obtain ⟨y, _, rfl⟩ := List.mem_map.1 hr
      simp only [encLRow, List.mem_cons, List.not_mem_nil, or_false] at hd
      rcases hd with rfl | rfl <;> rfl
    repeat ((with_reducible show _ ∧ _); refine scA ?_)
    (apply hK
     exact ⟨L.length - (i + 1), _, by omega, Ent.wk [1], i + 1, (o ++ L[i].Rows), by omega, rfl, by rw [List.append_assoc]; exact hinv, rfl⟩)
  · have hge' : L.length = i := by omega
    subst hge'
    have hdi : decide (((L.length : Nat) : Int) < ((L.length : Nat) : Int)) = false := by simp
    have hre : rowsOf L = o := by rw [hinv, List.drop_length]; simp [rowsOf]
    clear hinv
    simp (maxSteps := 2000000) only [go_sem, ↓reduceIte, reduceCtorEq, Nat.reduceAdd, Nat.reduceMul, Nat.reduceSub, Nat.reduceLT, Nat.reduceLeDiff, Nat.reduceEqDiff, Int.reduceToNat, Int.reduceLT, Int.reduceLE, Int.reduceNeg, hdi, List.length_map]
    apply hK
    refine evl ?_
    rw [hre]
    refine Fin.nt Try.results40 [0] ?_ ?_ ?_ <;> try trivial
    all_goals simp [objsLe, envLe, find, St.obj, AObj.renF, AV.renF, AV.renF1, Leaf.renF, LowAll, AV.Low, AV.Low1, Leaf.Low, AObj.Low, Ptr.renF, Ptr.Low]
theorem c18 (s : Shelf) (hz : sizShelf s ≤ 1048576) : Ctr Try.prog 18 [.agg ((encShelf s).map .dat)] [] (.one (.own 0)) [.vec 1 true ((waitingM s).map encI)] := by
  have hmx : maxLen = 9223372036854775807 := rfl
  obtain ⟨hl1, hl2⟩ := limbo_len hz
  have hca := c40 s.Base.Limbo hl1 hl2
  unfold waitingM
  generalize rowsOf s.Base.Limbo = R at hl2 hca ⊢
  simp only [encShelf, List.map_cons, List.map_nil]
  refine Ctr.bd mixed Try.func18 rfl ?_
  refine evl ?_
  repeat ((with_reducible show _ ∧ _); refine scA ?_)
  first | refine CallK_pure e40 (hca) rfl ?_ | refine EffK_pw e40 (hca) rfl ?_ | refine EffK_pu e40 (hca) rfl ?_ | refine CCallK_pl e40 (hca) rfl rfl ?_ | refine CCallK_pm e40 (hca) rfl rfl ?_
  refine evl ?_
  repeat ((with_reducible show _ ∧ _); refine scA ?_)
  refine LoopK_intro (fun zn zs => ∃ (i : Nat) (o : List Int), i ≤ R.length ∧ zn = R.length - i ∧ (R.map (·.Handle) = o ++ (R.drop i).map (·.Handle)) ∧ zs = mkSt [(5, .one (.dat (.int .i64 i))), (3, .one (.own 1)), (4, .one (.own 2))] [.box [.dat (.sl 1 (s.Base.Mem.Heap.Bytes.map encI)), .dat (.sl 1 (s.Base.Mem.Heap.Class.map encI)), .dat (.sl 1 (s.Base.Mem.Lists.Global.map encSList)), .dat (.sl 1 (s.Base.Mem.Lists.Own.map encSList)), .dat (.int .i64 s.Base.Clock.Epoch), .dat (.sl 4 (s.Base.Clock.Pins.map encPin)), .dat (.sl 1 (s.Base.Limbo.map encLList)), .dat (.sl 1 (s.Base.Haz.map encI)), .dat (.sl 1 (s.Cells.map encI)), .dat (.sl 21 (s.Jobs.map encJob)), .dat (.sl 1 (s.Todo.map encQueue)), .dat (.sl 7 (s.Log.map encEv)), .dat (.int .i64 s.Serial)], .vec 1 true (o.map encI), .vec 2 true (R.map encLRow)]) (R.length) _
    (Ent.wk [0, 1, 2]) ⟨0, [], by omega, by omega, rfl, rfl⟩ ?_
  rintro zn zs ⟨i, o, hi, rfl, hinv, rfl⟩ K hK
  rcases Nat.lt_or_ge i (R.length) with hlt | hge
  · have hdi : decide ((i : Int) < ((R.length : Nat) : Int)) = true := decide_eq_true (by omega)
    have hw := wrap_succ hlt (show R.length ≤ maxLen by omega)
    rw [List.drop_eq_getElem_cons hlt, List.map_cons] at hinv
    have hlq : o.length + 1 ≤ 1048576 := by
      have := congrArg List.length hinv
      simp only [List.length_append, List.length_map, List.length_cons] at this
      omega
    simp (maxSteps := 2000000) only [go_sem, ↓reduceIte, reduceCtorEq, Nat.reduceAdd, Nat.reduceMul, Nat.reduceSub, Nat.reduceLT, Nat.reduceLeDiff, Nat.reduceEqDiff, Int.reduceToNat, Int.reduceLT, Int.reduceLE, Int.reduceNeg, hdi, hw, getD_map hlt, encLRow, List.length_map]
    repeat ((with_reducible show _ ∧ _); refine scA ?_)
    (apply hK
     exact ⟨R.length - (i + 1), _, by omega, Ent.wk [0, 4, 2], i + 1, (o ++ [R[i].Handle]), by omega, rfl, by rw [List.append_assoc]; exact hinv, rfl⟩)
  · have hge' : R.length = i := by omega
    subst hge'
    have hdi : decide (((R.length : Nat) : Int) < ((R.length : Nat) : Int)) = false := by simp
    rw [List.drop_length, List.map_nil, List.append_nil] at hinv
    simp (maxSteps := 2000000) only [go_sem, ↓reduceIte, reduceCtorEq, Nat.reduceAdd, Nat.reduceMul, Nat.reduceSub, Nat.reduceLT, Nat.reduceLeDiff, Nat.reduceEqDiff, Int.reduceToNat, Int.reduceLT, Int.reduceLE, Int.reduceNeg, hdi, List.length_map]
    apply hK
    refine evl ?_
    rw [hinv]
    refine Fin.nt Try.results18 [1] ?_ ?_ ?_ <;> try trivial
    all_goals simp [objsLe, envLe, find, St.obj, AObj.renF, AV.renF, AV.renF1, Leaf.renF, LowAll, AV.Low, AV.Low1, Leaf.Low, AObj.Low, Ptr.renF, Ptr.Low]
end Go.Proofs.Ytjfpaiencojehaa.Mod
