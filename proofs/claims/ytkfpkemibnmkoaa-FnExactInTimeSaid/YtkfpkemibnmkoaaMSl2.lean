/- Contracts: Sl2. -/
import Derived.Test.YtkfpkemibnmkoaaRows
import Derived.Test.YtkfpkemibnmkoaaTy
import Derived.Test.YtkfpkemibnmkoaaAbsEval
import Derived.Test.YtkfpkemibnmkoaaAbsData
import Derived.Test.YtkfpkemibnmkoaaMFam2
import Derived.Test.YtkfpkemibnmkoaaMSl
import Derived.WalkKit
import Derived.ProofKit
import Derived.OpenShut
namespace Go.Proofs.Ytkfpkemibnmkoaa.Mod
open Go.Abs Go.Proofs.Ytkfpkemibnmkoaa.Ty Go.ChangeShapes Go.WideShapes Go.ChangeAt Go.RowKit
set_option linter.unusedSimpArgs false
set_option linter.unusedVariables false
set_option maxHeartbeats 8000000
set_option maxRecDepth 100000
theorem ixF_any {α : Type} (p : α → Bool) (l : List α) : decide (0 ≤ ixF p l) = l.any p := by
  rcases ixF_cases p l with ⟨e, hno⟩ | ⟨i, hi, e, hp, _⟩
  · rw [e]
    symm
    have : l.any p = false := by
      rw [List.any_eq_false]
      intro x hx
      obtain ⟨j, hj, rfl⟩ := List.getElem_of_mem hx
      simp [hno j hj]
    rw [this]; rfl
  · rw [e]
    have : l.any p = true := List.any_eq_true.2 ⟨_, List.getElem_mem hi, hp⟩
    rw [this]; simp
theorem c125 (l : List Int) (hl : l.length ≤ maxLen) (v : Int) : Ctr Try.prog 125 [.one (.dat (.sl 1 (l.map encI))), .one (.dat (.int .i64 v))] [] (.one (.dat (.int .i64 (ixF (fun x => x == v) l)))) [] := by
  refine Ctr.body mixed Try.func125 rfl (by kernel_rfl) (Nat.le_of_ble_eq_true rfl) (by simp [AV.Clean, AV.Clean1, Leaf.Clean, D.flat]) (by simp [AObj.Sep]) (by simp [AV.Low, AV.Low1, Leaf.Low]) ?_
  simp (maxSteps := 2000000) only [go_sem, ↓reduceIte, reduceCtorEq, Nat.reduceAdd, Nat.reduceMul, Nat.reduceSub, Nat.reduceLT, Nat.reduceLeDiff, Nat.reduceEqDiff, Int.reduceToNat, Int.reduceLT, Int.reduceLE, Int.reduceNeg]
  refine LoopK_intro (fun n s => ∃ i : Nat, i ≤ l.length ∧ n = l.length - i ∧ (∀ j (hj : j < l.length), j < i → (l[j] == v) = false) ∧ s = mkSt [(8, .one (.dat (.int .i64 i))), (7, .one (.dat (.int .i64 (l.length)))), (0, .one (.dat (.sl 1 (l.map encI)))), (1, .one (.dat (.int .i64 v)))] []) (l.length) _
    (Ent.weak (ids := []) (by simp) rfl (by simp) (by simp [objsLe, envLe, find, St.obj, AObj.renF, AV.renF, AV.renF1, Leaf.renF, LowAll, AV.Low, AV.Low1, Leaf.Low, AObj.Low, Ptr.renF, Ptr.Low]) (by simp [objsLe, envLe, find, St.obj, AObj.renF, AV.renF, AV.renF1, Leaf.renF, LowAll, AV.Low, AV.Low1, Leaf.Low, AObj.Low, Ptr.renF, Ptr.Low]) (by simp [objsLe, envLe, find, St.obj, AObj.renF, AV.renF, AV.renF1, Leaf.renF, LowAll, AV.Low, AV.Low1, Leaf.Low, AObj.Low, Ptr.renF, Ptr.Low])) ⟨0, by omega, by omega, by simp, rfl⟩ ?_
  rintro n s ⟨i, hi, rfl, hinv, rfl⟩ K hK
  rcases Nat.lt_or_ge i (l.length) with hlt | hge
  · have hdi : decide ((i : Int) < ((l.length : Nat) : Int)) = true := by simpa using hlt
    have hw := wrap_succ hlt hl
    simp (maxSteps := 2000000) only [go_sem, ↓reduceIte, reduceCtorEq, Nat.reduceAdd, Nat.reduceMul, Nat.reduceSub, Nat.reduceLT, Nat.reduceLeDiff, Nat.reduceEqDiff, Int.reduceToNat, Int.reduceLT, Int.reduceLE, Int.reduceNeg, hdi, hw, getD_map hlt, encI, List.length_map]
    refine ⟨⟨by omega, by omega⟩, hlt, ?_⟩
    refine ⟨fun h => ?_, fun h => ?_⟩
    · apply hK
      simp (maxSteps := 2000000) only [go_sem, ↓reduceIte, reduceCtorEq, Nat.reduceAdd, Nat.reduceMul, Nat.reduceSub, Nat.reduceLT, Nat.reduceLeDiff, Nat.reduceEqDiff, Int.reduceToNat, Int.reduceLT, Int.reduceLE, Int.reduceNeg]
      refine Fin.intro Try.results125 [] (by simp (maxSteps := 2000000) only [go_sem, ↓reduceIte, reduceCtorEq, Nat.reduceAdd, Nat.reduceMul, Nat.reduceSub, Nat.reduceLT, Nat.reduceLeDiff, Nat.reduceEqDiff, Int.reduceToNat, Int.reduceLT, Int.reduceLE, Int.reduceNeg, resA]; rfl) ?_ ?_ (by simp) rfl (by simp) ?_ <;> try trivial
      simp only [packA, AV.renF, AV.renF1, Leaf.renF, AV.one.injEq, Leaf.dat.injEq, D.bool.injEq, D.int.injEq, D.str.injEq, AV.agg.injEq, AV.tup.injEq, List.cons.injEq, and_true, true_and, List.map_cons, List.map_nil]
      exact (ixF_some (p := fun x => x == v) hlt (BEq.comm.trans h) hinv).symm
    · (apply hK
       exact ⟨l.length - (i + 1), _, by omega, Ent.weak (ids := []) (by simp) rfl (by simp) (by simp [objsLe, envLe, find, St.obj, AObj.renF, AV.renF, AV.renF1, Leaf.renF, LowAll, AV.Low, AV.Low1, Leaf.Low, AObj.Low, Ptr.renF, Ptr.Low]) (by simp [objsLe, envLe, find, St.obj, AObj.renF, AV.renF, AV.renF1, Leaf.renF, LowAll, AV.Low, AV.Low1, Leaf.Low, AObj.Low, Ptr.renF, Ptr.Low]) (by simp [objsLe, envLe, find, St.obj, AObj.renF, AV.renF, AV.renF1, Leaf.renF, LowAll, AV.Low, AV.Low1, Leaf.Low, AObj.Low, Ptr.renF, Ptr.Low]), i + 1, by omega, rfl, fun j hj hji => if e : j = i then by subst e; exact BEq.comm.trans h else hinv j hj (by omega), rfl⟩)
  · have hge' : i = l.length := by omega
    subst hge'
    have hdi : decide (((l.length : Nat) : Int) < ((l.length : Nat) : Int)) = false := by simp
    simp (maxSteps := 2000000) only [go_sem, ↓reduceIte, reduceCtorEq, Nat.reduceAdd, Nat.reduceMul, Nat.reduceSub, Nat.reduceLT, Nat.reduceLeDiff, Nat.reduceEqDiff, Int.reduceToNat, Int.reduceLT, Int.reduceLE, Int.reduceNeg, hdi, List.length_map]
    apply hK
    simp (maxSteps := 2000000) only [go_sem, ↓reduceIte, reduceCtorEq, Nat.reduceAdd, Nat.reduceMul, Nat.reduceSub, Nat.reduceLT, Nat.reduceLeDiff, Nat.reduceEqDiff, Int.reduceToNat, Int.reduceLT, Int.reduceLE, Int.reduceNeg]
    refine Fin.intro Try.results125 [] (by simp (maxSteps := 2000000) only [go_sem, ↓reduceIte, reduceCtorEq, Nat.reduceAdd, Nat.reduceMul, Nat.reduceSub, Nat.reduceLT, Nat.reduceLeDiff, Nat.reduceEqDiff, Int.reduceToNat, Int.reduceLT, Int.reduceLE, Int.reduceNeg, resA]; rfl) ?_ ?_ (by simp) rfl (by simp) ?_ <;> try trivial
    simp only [packA, AV.renF, AV.renF1, Leaf.renF, AV.one.injEq, Leaf.dat.injEq, D.bool.injEq, D.int.injEq, D.str.injEq, AV.agg.injEq, AV.tup.injEq, List.cons.injEq, and_true, true_and, List.map_cons, List.map_nil]
    exact (ixF_none fun j hj => hinv j hj hj).symm
theorem c120 (l : List Int) (hl : l.length ≤ maxLen) (v : Int) : Ctr Try.prog 120 [.one (.dat (.sl 1 (l.map encI))), .one (.dat (.int .i64 v))] [] (.one (.dat (.bool (l.any fun x => x == v)))) [] := by
  refine Ctr.body mixed Try.func120 rfl (by kernel_rfl) (Nat.le_of_ble_eq_true rfl) (by simp [AV.Clean, AV.Clean1, Leaf.Clean, D.flat]) (by simp [AObj.Sep]) (by simp [AV.Low, AV.Low1, Leaf.Low]) ?_
  simp (maxSteps := 2000000) only [go_sem, ↓reduceIte, reduceCtorEq, Nat.reduceAdd, Nat.reduceMul, Nat.reduceSub, Nat.reduceLT, Nat.reduceLeDiff, Nat.reduceEqDiff, Int.reduceToNat, Int.reduceLT, Int.reduceLE, Int.reduceNeg]
  refine CallK_pure e125 (c125 l hl v) rfl ?_
  simp (maxSteps := 2000000) only [go_sem, ↓reduceIte, reduceCtorEq, Nat.reduceAdd, Nat.reduceMul, Nat.reduceSub, Nat.reduceLT, Nat.reduceLeDiff, Nat.reduceEqDiff, Int.reduceToNat, Int.reduceLT, Int.reduceLE, Int.reduceNeg]
  refine Fin.intro Try.results120 [] (by simp (maxSteps := 2000000) only [go_sem, ↓reduceIte, reduceCtorEq, Nat.reduceAdd, Nat.reduceMul, Nat.reduceSub, Nat.reduceLT, Nat.reduceLeDiff, Nat.reduceEqDiff, Int.reduceToNat, Int.reduceLT, Int.reduceLE, Int.reduceNeg, resA]; rfl) ?_ ?_ (by simp) rfl (by simp) ?_ <;> try trivial
  simp only [packA, AV.renF, AV.renF1, Leaf.renF, AV.one.injEq, Leaf.dat.injEq, D.bool.injEq, D.int.injEq, D.str.injEq, AV.agg.injEq, AV.tup.injEq, List.cons.injEq, and_true, true_and, List.map_cons, List.map_nil]
  exact ixF_any _ l
theorem c121_k0 (l : List Int) (hl : l.length ≤ maxLen) {fid : FuncId} {p : Int → Bool} (he : enters Try.prog fid = true)
    (hp : ∀ x ∈ l, Ctr Try.prog fid [.one (.dat (.int .i64 x))] [] (.one (.dat (.bool (p x)))) []) : Ctr Try.prog 121 [.one (.dat (.sl 1 (l.map encI))), .one (.fn fid [])] [] (.one (.dat (.int .i64 (ixF p l)))) [] := by
  refine Ctr.body mixed Try.func121 rfl (by kernel_rfl) (Nat.le_of_ble_eq_true rfl) (by simp [AV.Clean, AV.Clean1, Leaf.Clean, D.flat]) (by simp [AObj.Sep]) (by simp [AV.Low, AV.Low1, Leaf.Low]) ?_
  simp (maxSteps := 2000000) only [go_sem, ↓reduceIte, reduceCtorEq, Nat.reduceAdd, Nat.reduceMul, Nat.reduceSub, Nat.reduceLT, Nat.reduceLeDiff, Nat.reduceEqDiff, Int.reduceToNat, Int.reduceLT, Int.reduceLE, Int.reduceNeg]
  refine LoopK_intro (fun n s => ∃ i : Nat, i ≤ l.length ∧ n = l.length - i ∧ (∀ j (hj : j < l.length), j < i → p l[j] = false) ∧ s = mkSt [(8, .one (.dat (.int .i64 i))), (7, .one (.dat (.int .i64 l.length))), (1, .one (.fn fid [])), (0, .one (.dat (.sl 1 (l.map encI))))] []) l.length _
    (Ent.weak (ids := []) (by simp) rfl (by simp) (by simp [objsLe, envLe, find, St.obj, AObj.renF, AV.renF, AV.renF1, Leaf.renF, LowAll, AV.Low, AV.Low1, Leaf.Low, AObj.Low, Ptr.renF, Ptr.Low]) (by simp [objsLe, envLe, find, St.obj, AObj.renF, AV.renF, AV.renF1, Leaf.renF, LowAll, AV.Low, AV.Low1, Leaf.Low, AObj.Low, Ptr.renF, Ptr.Low]) (by simp [objsLe, envLe, find, St.obj, AObj.renF, AV.renF, AV.renF1, Leaf.renF, LowAll, AV.Low, AV.Low1, Leaf.Low, AObj.Low, Ptr.renF, Ptr.Low])) ⟨0, by omega, by omega, by simp, rfl⟩ ?_
  rintro n s ⟨i, hi, rfl, ht, rfl⟩ K hK
  simp (maxSteps := 2000000) only [go_sem, ↓reduceIte, reduceCtorEq, Nat.reduceAdd, Nat.reduceMul, Nat.reduceSub, Nat.reduceLT, Nat.reduceLeDiff, Nat.reduceEqDiff, Int.reduceToNat, Int.reduceLT, Int.reduceLE, Int.reduceNeg]
  refine ⟨fun h => ?_, fun h => ?_⟩
  · have hlt : i < l.length := by simpa using h
    have hw := wrap_succ hlt hl
    refine ⟨⟨by omega, by omega⟩, hlt, ?_⟩
    have hpx := hp l[i] (List.getElem_mem hlt)
    simp only [getD_map hlt, encI, List.map_cons, List.map_nil, List.take_succ_cons, List.take_zero, List.getD_cons_zero] at hpx ⊢
    refine CallK_pure he hpx rfl ?_
    simp (maxSteps := 2000000) only [go_sem, ↓reduceIte, reduceCtorEq, Nat.reduceAdd, Nat.reduceMul, Nat.reduceSub, Nat.reduceLT, Nat.reduceLeDiff, Nat.reduceEqDiff, Int.reduceToNat, Int.reduceLT, Int.reduceLE, Int.reduceNeg, hw]
    refine ⟨fun h => ?_, fun h => ?_⟩
    · apply hK
      simp (maxSteps := 2000000) only [go_sem, ↓reduceIte, reduceCtorEq, Nat.reduceAdd, Nat.reduceMul, Nat.reduceSub, Nat.reduceLT, Nat.reduceLeDiff, Nat.reduceEqDiff, Int.reduceToNat, Int.reduceLT, Int.reduceLE, Int.reduceNeg]
      refine Fin.intro Try.results121 [] (by simp (maxSteps := 2000000) only [go_sem, ↓reduceIte, reduceCtorEq, Nat.reduceAdd, Nat.reduceMul, Nat.reduceSub, Nat.reduceLT, Nat.reduceLeDiff, Nat.reduceEqDiff, Int.reduceToNat, Int.reduceLT, Int.reduceLE, Int.reduceNeg, resA]; rfl) ?_ ?_ (by simp) rfl (by simp) ?_ <;> try trivial
      simp only [packA, AV.renF, AV.renF1, Leaf.renF, AV.one.injEq, Leaf.dat.injEq, D.bool.injEq, D.int.injEq, D.str.injEq, AV.agg.injEq, AV.tup.injEq, List.cons.injEq, and_true, true_and, List.map_cons, List.map_nil]
      exact (ixF_some hlt h ht).symm
    · apply hK
      refine ⟨l.length - (i + 1), _, by omega, Ent.weak (ids := []) (by simp) rfl (by simp) (by simp [objsLe, envLe, find, St.obj, AObj.renF, AV.renF, AV.renF1, Leaf.renF, LowAll, AV.Low, AV.Low1, Leaf.Low, AObj.Low, Ptr.renF, Ptr.Low]) (by simp [objsLe, envLe, find, St.obj, AObj.renF, AV.renF, AV.renF1, Leaf.renF, LowAll, AV.Low, AV.Low1, Leaf.Low, AObj.Low, Ptr.renF, Ptr.Low]) (by simp [objsLe, envLe, find, St.obj, AObj.renF, AV.renF, AV.renF1, Leaf.renF, LowAll, AV.Low, AV.Low1, Leaf.Low, AObj.Low, Ptr.renF, Ptr.Low]), i + 1, by omega, rfl, fun j hj hji => ?_, rfl⟩
      by_cases e : j = i
      · subst e; exact h
      · exact ht j hj (by omega)
  · have hge : i = l.length := by simp at h; omega
    subst hge
    apply hK
    simp (maxSteps := 2000000) only [go_sem, ↓reduceIte, reduceCtorEq, Nat.reduceAdd, Nat.reduceMul, Nat.reduceSub, Nat.reduceLT, Nat.reduceLeDiff, Nat.reduceEqDiff, Int.reduceToNat, Int.reduceLT, Int.reduceLE, Int.reduceNeg]
    refine Fin.intro Try.results121 [] (by simp (maxSteps := 2000000) only [go_sem, ↓reduceIte, reduceCtorEq, Nat.reduceAdd, Nat.reduceMul, Nat.reduceSub, Nat.reduceLT, Nat.reduceLeDiff, Nat.reduceEqDiff, Int.reduceToNat, Int.reduceLT, Int.reduceLE, Int.reduceNeg, resA]; rfl) ?_ ?_ (by simp) rfl (by simp) ?_ <;> try trivial
    simp only [packA, AV.renF, AV.renF1, Leaf.renF, AV.one.injEq, Leaf.dat.injEq, D.bool.injEq, D.int.injEq, D.str.injEq, AV.agg.injEq, AV.tup.injEq, List.cons.injEq, and_true, true_and, List.map_cons, List.map_nil]
    exact (ixF_none fun j hj => ht j hj hj).symm
theorem c110_k0 (l : List Int) (hl : l.length ≤ maxLen) {fid : FuncId} {p : Int → Bool} (he : enters Try.prog fid = true)
    (hp : ∀ x ∈ l, Ctr Try.prog fid [.one (.dat (.int .i64 x))] [] (.one (.dat (.bool (p x)))) []) : Ctr Try.prog 110 [.one (.dat (.sl 1 (l.map encI))), .one (.fn fid [])] [] (.one (.dat (.bool (l.any p)))) [] := by
  refine Ctr.body mixed Try.func110 rfl (by kernel_rfl) (Nat.le_of_ble_eq_true rfl) (by simp [AV.Clean, AV.Clean1, Leaf.Clean, D.flat]) (by simp [AObj.Sep]) (by simp [AV.Low, AV.Low1, Leaf.Low]) ?_
  simp (maxSteps := 2000000) only [go_sem, ↓reduceIte, reduceCtorEq, Nat.reduceAdd, Nat.reduceMul, Nat.reduceSub, Nat.reduceLT, Nat.reduceLeDiff, Nat.reduceEqDiff, Int.reduceToNat, Int.reduceLT, Int.reduceLE, Int.reduceNeg]
  refine CallK_pure e121 (c121_k0 l hl he hp) rfl ?_
  simp (maxSteps := 2000000) only [go_sem, ↓reduceIte, reduceCtorEq, Nat.reduceAdd, Nat.reduceMul, Nat.reduceSub, Nat.reduceLT, Nat.reduceLeDiff, Nat.reduceEqDiff, Int.reduceToNat, Int.reduceLT, Int.reduceLE, Int.reduceNeg]
  refine Fin.intro Try.results110 [] (by simp (maxSteps := 2000000) only [go_sem, ↓reduceIte, reduceCtorEq, Nat.reduceAdd, Nat.reduceMul, Nat.reduceSub, Nat.reduceLT, Nat.reduceLeDiff, Nat.reduceEqDiff, Int.reduceToNat, Int.reduceLT, Int.reduceLE, Int.reduceNeg, resA]; rfl) ?_ ?_ (by simp) rfl (by simp) ?_ <;> try trivial
  simp only [packA, AV.renF, AV.renF1, Leaf.renF, AV.one.injEq, Leaf.dat.injEq, D.bool.injEq, D.int.injEq, D.str.injEq, AV.agg.injEq, AV.tup.injEq, List.cons.injEq, and_true, true_and, List.map_cons, List.map_nil]
  exact ixF_any p l
theorem c121_k1 (l : List Int) (hl : l.length ≤ maxLen) {fid : FuncId} {m : Nat} {r : List D} {p : Int → Bool} (he : enters Try.prog fid = true)
    (hp : ∀ x ∈ l, Ctr Try.prog fid [.one (.dat (.int .i64 x)), .one (.ptr (.ro m [r] 0 0))] [] (.one (.dat (.bool (p x)))) []) : Ctr Try.prog 121 [.one (.dat (.sl 1 (l.map encI))), .one (.fn fid [.ro m [r] 0 0])] [] (.one (.dat (.int .i64 (ixF p l)))) [] := by
  refine Ctr.body mixed Try.func121 rfl (by kernel_rfl) (Nat.le_of_ble_eq_true rfl) (by simp [AV.Clean, AV.Clean1, Leaf.Clean, D.flat]) (by simp [AObj.Sep]) (by simp [AV.Low, AV.Low1, Leaf.Low]) ?_
  simp (maxSteps := 2000000) only [go_sem, ↓reduceIte, reduceCtorEq, Nat.reduceAdd, Nat.reduceMul, Nat.reduceSub, Nat.reduceLT, Nat.reduceLeDiff, Nat.reduceEqDiff, Int.reduceToNat, Int.reduceLT, Int.reduceLE, Int.reduceNeg]
  refine LoopK_intro (fun n s => ∃ i : Nat, i ≤ l.length ∧ n = l.length - i ∧ (∀ j (hj : j < l.length), j < i → p l[j] = false) ∧ s = mkSt [(8, .one (.dat (.int .i64 i))), (7, .one (.dat (.int .i64 l.length))), (1, .one (.fn fid [.ro m [r] 0 0])), (0, .one (.dat (.sl 1 (l.map encI))))] []) l.length _
    (Ent.weak (ids := []) (by simp) rfl (by simp) (by simp [objsLe, envLe, find, St.obj, AObj.renF, AV.renF, AV.renF1, Leaf.renF, LowAll, AV.Low, AV.Low1, Leaf.Low, AObj.Low, Ptr.renF, Ptr.Low]) (by simp [objsLe, envLe, find, St.obj, AObj.renF, AV.renF, AV.renF1, Leaf.renF, LowAll, AV.Low, AV.Low1, Leaf.Low, AObj.Low, Ptr.renF, Ptr.Low]) (by simp [objsLe, envLe, find, St.obj, AObj.renF, AV.renF, AV.renF1, Leaf.renF, LowAll, AV.Low, AV.Low1, Leaf.Low, AObj.Low, Ptr.renF, Ptr.Low])) ⟨0, by omega, by omega, by simp, rfl⟩ ?_
  rintro n s ⟨i, hi, rfl, ht, rfl⟩ K hK
  simp (maxSteps := 2000000) only [go_sem, ↓reduceIte, reduceCtorEq, Nat.reduceAdd, Nat.reduceMul, Nat.reduceSub, Nat.reduceLT, Nat.reduceLeDiff, Nat.reduceEqDiff, Int.reduceToNat, Int.reduceLT, Int.reduceLE, Int.reduceNeg]
  refine ⟨fun h => ?_, fun h => ?_⟩
  · have hlt : i < l.length := by simpa using h
    have hw := wrap_succ hlt hl
    refine ⟨⟨by omega, by omega⟩, hlt, ?_⟩
    have hpx := hp l[i] (List.getElem_mem hlt)
    simp only [getD_map hlt, encI, List.map_cons, List.map_nil, List.take_succ_cons, List.take_zero, List.getD_cons_zero] at hpx ⊢
    refine CallK_pure he hpx rfl ?_
    simp (maxSteps := 2000000) only [go_sem, ↓reduceIte, reduceCtorEq, Nat.reduceAdd, Nat.reduceMul, Nat.reduceSub, Nat.reduceLT, Nat.reduceLeDiff, Nat.reduceEqDiff, Int.reduceToNat, Int.reduceLT, Int.reduceLE, Int.reduceNeg, hw]
    refine ⟨fun h => ?_, fun h => ?_⟩
    · apply hK
      simp (maxSteps := 2000000) only [go_sem, ↓reduceIte, reduceCtorEq, Nat.reduceAdd, Nat.reduceMul, Nat.reduceSub, Nat.reduceLT, Nat.reduceLeDiff, Nat.reduceEqDiff, Int.reduceToNat, Int.reduceLT, Int.reduceLE, Int.reduceNeg]
      refine Fin.intro Try.results121 [] (by simp (maxSteps := 2000000) only [go_sem, ↓reduceIte, reduceCtorEq, Nat.reduceAdd, Nat.reduceMul, Nat.reduceSub, Nat.reduceLT, Nat.reduceLeDiff, Nat.reduceEqDiff, Int.reduceToNat, Int.reduceLT, Int.reduceLE, Int.reduceNeg, resA]; rfl) ?_ ?_ (by simp) rfl (by simp) ?_ <;> try trivial
      simp only [packA, AV.renF, AV.renF1, Leaf.renF, AV.one.injEq, Leaf.dat.injEq, D.bool.injEq, D.int.injEq, D.str.injEq, AV.agg.injEq, AV.tup.injEq, List.cons.injEq, and_true, true_and, List.map_cons, List.map_nil]
      exact (ixF_some hlt h ht).symm
    · apply hK
      refine ⟨l.length - (i + 1), _, by omega, Ent.weak (ids := []) (by simp) rfl (by simp) (by simp [objsLe, envLe, find, St.obj, AObj.renF, AV.renF, AV.renF1, Leaf.renF, LowAll, AV.Low, AV.Low1, Leaf.Low, AObj.Low, Ptr.renF, Ptr.Low]) (by simp [objsLe, envLe, find, St.obj, AObj.renF, AV.renF, AV.renF1, Leaf.renF, LowAll, AV.Low, AV.Low1, Leaf.Low, AObj.Low, Ptr.renF, Ptr.Low]) (by simp [objsLe, envLe, find, St.obj, AObj.renF, AV.renF, AV.renF1, Leaf.renF, LowAll, AV.Low, AV.Low1, Leaf.Low, AObj.Low, Ptr.renF, Ptr.Low]), i + 1, by omega, rfl, fun j hj hji => ?_, rfl⟩
      by_cases e : j = i
      · subst e; exact h
      · exact ht j hj (by omega)
  · have hge : i = l.length := by simp at h; omega
    subst hge
    apply hK
    simp (maxSteps := 2000000) only [go_sem, ↓reduceIte, reduceCtorEq, Nat.reduceAdd, Nat.reduceMul, Nat.reduceSub, Nat.reduceLT, Nat.reduceLeDiff, Nat.reduceEqDiff, Int.reduceToNat, Int.reduceLT, Int.reduceLE, Int.reduceNeg]
    refine Fin.intro Try.results121 [] (by simp (maxSteps := 2000000) only [go_sem, ↓reduceIte, reduceCtorEq, Nat.reduceAdd, Nat.reduceMul, Nat.reduceSub, Nat.reduceLT, Nat.reduceLeDiff, Nat.reduceEqDiff, Int.reduceToNat, Int.reduceLT, Int.reduceLE, Int.reduceNeg, resA]; rfl) ?_ ?_ (by simp) rfl (by simp) ?_ <;> try trivial
    simp only [packA, AV.renF, AV.renF1, Leaf.renF, AV.one.injEq, Leaf.dat.injEq, D.bool.injEq, D.int.injEq, D.str.injEq, AV.agg.injEq, AV.tup.injEq, List.cons.injEq, and_true, true_and, List.map_cons, List.map_nil]
    exact (ixF_none fun j hj => ht j hj hj).symm
theorem c110_k1 (l : List Int) (hl : l.length ≤ maxLen) {fid : FuncId} {m : Nat} {r : List D} {p : Int → Bool} (he : enters Try.prog fid = true)
    (hp : ∀ x ∈ l, Ctr Try.prog fid [.one (.dat (.int .i64 x)), .one (.ptr (.ro m [r] 0 0))] [] (.one (.dat (.bool (p x)))) []) : Ctr Try.prog 110 [.one (.dat (.sl 1 (l.map encI))), .one (.fn fid [.ro m [r] 0 0])] [] (.one (.dat (.bool (l.any p)))) [] := by
  refine Ctr.body mixed Try.func110 rfl (by kernel_rfl) (Nat.le_of_ble_eq_true rfl) (by simp [AV.Clean, AV.Clean1, Leaf.Clean, D.flat]) (by simp [AObj.Sep]) (by simp [AV.Low, AV.Low1, Leaf.Low]) ?_
  simp (maxSteps := 2000000) only [go_sem, ↓reduceIte, reduceCtorEq, Nat.reduceAdd, Nat.reduceMul, Nat.reduceSub, Nat.reduceLT, Nat.reduceLeDiff, Nat.reduceEqDiff, Int.reduceToNat, Int.reduceLT, Int.reduceLE, Int.reduceNeg]
  refine CallK_pure e121 (c121_k1 l hl he hp) rfl ?_
  simp (maxSteps := 2000000) only [go_sem, ↓reduceIte, reduceCtorEq, Nat.reduceAdd, Nat.reduceMul, Nat.reduceSub, Nat.reduceLT, Nat.reduceLeDiff, Nat.reduceEqDiff, Int.reduceToNat, Int.reduceLT, Int.reduceLE, Int.reduceNeg]
  refine Fin.intro Try.results110 [] (by simp (maxSteps := 2000000) only [go_sem, ↓reduceIte, reduceCtorEq, Nat.reduceAdd, Nat.reduceMul, Nat.reduceSub, Nat.reduceLT, Nat.reduceLeDiff, Nat.reduceEqDiff, Int.reduceToNat, Int.reduceLT, Int.reduceLE, Int.reduceNeg, resA]; rfl) ?_ ?_ (by simp) rfl (by simp) ?_ <;> try trivial
  simp only [packA, AV.renF, AV.renF1, Leaf.renF, AV.one.injEq, Leaf.dat.injEq, D.bool.injEq, D.int.injEq, D.str.injEq, AV.agg.injEq, AV.tup.injEq, List.cons.injEq, and_true, true_and, List.map_cons, List.map_nil]
  exact ixF_any p l
theorem c121_k2 (l : List Int) (hl : l.length ≤ maxLen) {fid : FuncId} {m m2 : Nat} {r r2 : List D} {p : Int → Bool} (he : enters Try.prog fid = true)
    (hp : ∀ x ∈ l, Ctr Try.prog fid [.one (.dat (.int .i64 x)), .one (.ptr (.ro m [r] 0 0)), .one (.ptr (.ro m2 [r2] 0 0))] [] (.one (.dat (.bool (p x)))) []) : Ctr Try.prog 121 [.one (.dat (.sl 1 (l.map encI))), .one (.fn fid [.ro m [r] 0 0, .ro m2 [r2] 0 0])] [] (.one (.dat (.int .i64 (ixF p l)))) [] := by
  refine Ctr.body mixed Try.func121 rfl (by kernel_rfl) (Nat.le_of_ble_eq_true rfl) (by simp [AV.Clean, AV.Clean1, Leaf.Clean, D.flat]) (by simp [AObj.Sep]) (by simp [AV.Low, AV.Low1, Leaf.Low]) ?_
  simp (maxSteps := 2000000) only [go_sem, ↓reduceIte, reduceCtorEq, Nat.reduceAdd, Nat.reduceMul, Nat.reduceSub, Nat.reduceLT, Nat.reduceLeDiff, Nat.reduceEqDiff, Int.reduceToNat, Int.reduceLT, Int.reduceLE, Int.reduceNeg]
  refine LoopK_intro (fun n s => ∃ i : Nat, i ≤ l.length ∧ n = l.length - i ∧ (∀ j (hj : j < l.length), j < i → p l[j] = false) ∧ s = mkSt [(8, .one (.dat (.int .i64 i))), (7, .one (.dat (.int .i64 l.length))), (1, .one (.fn fid [.ro m [r] 0 0, .ro m2 [r2] 0 0])), (0, .one (.dat (.sl 1 (l.map encI))))] []) l.length _
    (Ent.weak (ids := []) (by simp) rfl (by simp) (by simp [objsLe, envLe, find, St.obj, AObj.renF, AV.renF, AV.renF1, Leaf.renF, LowAll, AV.Low, AV.Low1, Leaf.Low, AObj.Low, Ptr.renF, Ptr.Low]) (by simp [objsLe, envLe, find, St.obj, AObj.renF, AV.renF, AV.renF1, Leaf.renF, LowAll, AV.Low, AV.Low1, Leaf.Low, AObj.Low, Ptr.renF, Ptr.Low]) (by simp [objsLe, envLe, find, St.obj, AObj.renF, AV.renF, AV.renF1, Leaf.renF, LowAll, AV.Low, AV.Low1, Leaf.Low, AObj.Low, Ptr.renF, Ptr.Low])) ⟨0, by omega, by omega, by simp, rfl⟩ ?_
  rintro n s ⟨i, hi, rfl, ht, rfl⟩ K hK
  simp (maxSteps := 2000000) only [go_sem, ↓reduceIte, reduceCtorEq, Nat.reduceAdd, Nat.reduceMul, Nat.reduceSub, Nat.reduceLT, Nat.reduceLeDiff, Nat.reduceEqDiff, Int.reduceToNat, Int.reduceLT, Int.reduceLE, Int.reduceNeg]
  refine ⟨fun h => ?_, fun h => ?_⟩
  · have hlt : i < l.length := by simpa using h
    have hw := wrap_succ hlt hl
    refine ⟨⟨by omega, by omega⟩, hlt, ?_⟩
    have hpx := hp l[i] (List.getElem_mem hlt)
    simp only [getD_map hlt, encI, List.map_cons, List.map_nil, List.take_succ_cons, List.take_zero, List.getD_cons_zero] at hpx ⊢
    refine CallK_pure he hpx rfl ?_
    simp (maxSteps := 2000000) only [go_sem, ↓reduceIte, reduceCtorEq, Nat.reduceAdd, Nat.reduceMul, Nat.reduceSub, Nat.reduceLT, Nat.reduceLeDiff, Nat.reduceEqDiff, Int.reduceToNat, Int.reduceLT, Int.reduceLE, Int.reduceNeg, hw]
    refine ⟨fun h => ?_, fun h => ?_⟩
    · apply hK
      simp (maxSteps := 2000000) only [go_sem, ↓reduceIte, reduceCtorEq, Nat.reduceAdd, Nat.reduceMul, Nat.reduceSub, Nat.reduceLT, Nat.reduceLeDiff, Nat.reduceEqDiff, Int.reduceToNat, Int.reduceLT, Int.reduceLE, Int.reduceNeg]
      refine Fin.intro Try.results121 [] (by simp (maxSteps := 2000000) only [go_sem, ↓reduceIte, reduceCtorEq, Nat.reduceAdd, Nat.reduceMul, Nat.reduceSub, Nat.reduceLT, Nat.reduceLeDiff, Nat.reduceEqDiff, Int.reduceToNat, Int.reduceLT, Int.reduceLE, Int.reduceNeg, resA]; rfl) ?_ ?_ (by simp) rfl (by simp) ?_ <;> try trivial
      simp only [packA, AV.renF, AV.renF1, Leaf.renF, AV.one.injEq, Leaf.dat.injEq, D.bool.injEq, D.int.injEq, D.str.injEq, AV.agg.injEq, AV.tup.injEq, List.cons.injEq, and_true, true_and, List.map_cons, List.map_nil]
      exact (ixF_some hlt h ht).symm
    · apply hK
      refine ⟨l.length - (i + 1), _, by omega, Ent.weak (ids := []) (by simp) rfl (by simp) (by simp [objsLe, envLe, find, St.obj, AObj.renF, AV.renF, AV.renF1, Leaf.renF, LowAll, AV.Low, AV.Low1, Leaf.Low, AObj.Low, Ptr.renF, Ptr.Low]) (by simp [objsLe, envLe, find, St.obj, AObj.renF, AV.renF, AV.renF1, Leaf.renF, LowAll, AV.Low, AV.Low1, Leaf.Low, AObj.Low, Ptr.renF, Ptr.Low]) (by simp [objsLe, envLe, find, St.obj, AObj.renF, AV.renF, AV.renF1, Leaf.renF, LowAll, AV.Low, AV.Low1, Leaf.Low, AObj.Low, Ptr.renF, Ptr.Low]), i + 1, by omega, rfl, fun j hj hji => ?_, rfl⟩
      by_cases e : j = i
      · subst e; exact h
      · exact ht j hj (by omega)
  · have hge : i = l.length := by simp at h; omega
    subst hge
    apply hK
    simp (maxSteps := 2000000) only [go_sem, ↓reduceIte, reduceCtorEq, Nat.reduceAdd, Nat.reduceMul, Nat.reduceSub, Nat.reduceLT, Nat.reduceLeDiff, Nat.reduceEqDiff, Int.reduceToNat, Int.reduceLT, Int.reduceLE, Int.reduceNeg]
    refine Fin.intro Try.results121 [] (by simp (maxSteps := 2000000) only [go_sem, ↓reduceIte, reduceCtorEq, Nat.reduceAdd, Nat.reduceMul, Nat.reduceSub, Nat.reduceLT, Nat.reduceLeDiff, Nat.reduceEqDiff, Int.reduceToNat, Int.reduceLT, Int.reduceLE, Int.reduceNeg, resA]; rfl) ?_ ?_ (by simp) rfl (by simp) ?_ <;> try trivial
    simp only [packA, AV.renF, AV.renF1, Leaf.renF, AV.one.injEq, Leaf.dat.injEq, D.bool.injEq, D.int.injEq, D.str.injEq, AV.agg.injEq, AV.tup.injEq, List.cons.injEq, and_true, true_and, List.map_cons, List.map_nil]
    exact (ixF_none fun j hj => ht j hj hj).symm
theorem c110_k2 (l : List Int) (hl : l.length ≤ maxLen) {fid : FuncId} {m m2 : Nat} {r r2 : List D} {p : Int → Bool} (he : enters Try.prog fid = true)
    (hp : ∀ x ∈ l, Ctr Try.prog fid [.one (.dat (.int .i64 x)), .one (.ptr (.ro m [r] 0 0)), .one (.ptr (.ro m2 [r2] 0 0))] [] (.one (.dat (.bool (p x)))) []) : Ctr Try.prog 110 [.one (.dat (.sl 1 (l.map encI))), .one (.fn fid [.ro m [r] 0 0, .ro m2 [r2] 0 0])] [] (.one (.dat (.bool (l.any p)))) [] := by
  refine Ctr.body mixed Try.func110 rfl (by kernel_rfl) (Nat.le_of_ble_eq_true rfl) (by simp [AV.Clean, AV.Clean1, Leaf.Clean, D.flat]) (by simp [AObj.Sep]) (by simp [AV.Low, AV.Low1, Leaf.Low]) ?_
  simp (maxSteps := 2000000) only [go_sem, ↓reduceIte, reduceCtorEq, Nat.reduceAdd, Nat.reduceMul, Nat.reduceSub, Nat.reduceLT, Nat.reduceLeDiff, Nat.reduceEqDiff, Int.reduceToNat, Int.reduceLT, Int.reduceLE, Int.reduceNeg]
  refine CallK_pure e121 (c121_k2 l hl he hp) rfl ?_
  simp (maxSteps := 2000000) only [go_sem, ↓reduceIte, reduceCtorEq, Nat.reduceAdd, Nat.reduceMul, Nat.reduceSub, Nat.reduceLT, Nat.reduceLeDiff, Nat.reduceEqDiff, Int.reduceToNat, Int.reduceLT, Int.reduceLE, Int.reduceNeg]
  refine Fin.intro Try.results110 [] (by simp (maxSteps := 2000000) only [go_sem, ↓reduceIte, reduceCtorEq, Nat.reduceAdd, Nat.reduceMul, Nat.reduceSub, Nat.reduceLT, Nat.reduceLeDiff, Nat.reduceEqDiff, Int.reduceToNat, Int.reduceLT, Int.reduceLE, Int.reduceNeg, resA]; rfl) ?_ ?_ (by simp) rfl (by simp) ?_ <;> try trivial
  simp only [packA, AV.renF, AV.renF1, Leaf.renF, AV.one.injEq, Leaf.dat.injEq, D.bool.injEq, D.int.injEq, D.str.injEq, AV.agg.injEq, AV.tup.injEq, List.cons.injEq, and_true, true_and, List.map_cons, List.map_nil]
  exact ixF_any p l
theorem c116_k0 (l : List Cmd) (hl : l.length ≤ maxLen) {fid : FuncId} {p : Cmd → Bool} (he : enters Try.prog fid = true)
    (hp : ∀ x ∈ l, Ctr Try.prog fid [.agg ((encCmd x).map .dat)] [] (.one (.dat (.bool (p x)))) []) : Ctr Try.prog 116 [.one (.dat (.sl 3 (l.map encCmd))), .one (.fn fid [])] [] (.one (.dat (.int .i64 (ixF p l)))) [] := by
  refine Ctr.body mixed Try.func116 rfl (by kernel_rfl) (Nat.le_of_ble_eq_true rfl) (by simp [AV.Clean, AV.Clean1, Leaf.Clean, D.flat]) (by simp [AObj.Sep]) (by simp [AV.Low, AV.Low1, Leaf.Low]) ?_
  simp (maxSteps := 2000000) only [go_sem, ↓reduceIte, reduceCtorEq, Nat.reduceAdd, Nat.reduceMul, Nat.reduceSub, Nat.reduceLT, Nat.reduceLeDiff, Nat.reduceEqDiff, Int.reduceToNat, Int.reduceLT, Int.reduceLE, Int.reduceNeg]
  refine LoopK_intro (fun n s => ∃ i : Nat, i ≤ l.length ∧ n = l.length - i ∧ (∀ j (hj : j < l.length), j < i → p l[j] = false) ∧ s = mkSt [(8, .one (.dat (.int .i64 i))), (7, .one (.dat (.int .i64 l.length))), (1, .one (.fn fid [])), (0, .one (.dat (.sl 3 (l.map encCmd))))] []) l.length _
    (Ent.weak (ids := []) (by simp) rfl (by simp) (by simp [objsLe, envLe, find, St.obj, AObj.renF, AV.renF, AV.renF1, Leaf.renF, LowAll, AV.Low, AV.Low1, Leaf.Low, AObj.Low, Ptr.renF, Ptr.Low]) (by simp [objsLe, envLe, find, St.obj, AObj.renF, AV.renF, AV.renF1, Leaf.renF, LowAll, AV.Low, AV.Low1, Leaf.Low, AObj.Low, Ptr.renF, Ptr.Low]) (by simp [objsLe, envLe, find, St.obj, AObj.renF, AV.renF, AV.renF1, Leaf.renF, LowAll, AV.Low, AV.Low1, Leaf.Low, AObj.Low, Ptr.renF, Ptr.Low])) ⟨0, by omega, by omega, by simp, rfl⟩ ?_
  rintro n s ⟨i, hi, rfl, ht, rfl⟩ K hK
  simp (maxSteps := 2000000) only [go_sem, ↓reduceIte, reduceCtorEq, Nat.reduceAdd, Nat.reduceMul, Nat.reduceSub, Nat.reduceLT, Nat.reduceLeDiff, Nat.reduceEqDiff, Int.reduceToNat, Int.reduceLT, Int.reduceLE, Int.reduceNeg]
  refine ⟨fun h => ?_, fun h => ?_⟩
  · have hlt : i < l.length := by simpa using h
    have hw := wrap_succ hlt hl
    refine ⟨⟨by omega, by omega⟩, hlt, ?_⟩
    have hpx := hp l[i] (List.getElem_mem hlt)
    simp only [getD_map hlt, encCmd, List.map_cons, List.map_nil, List.take_succ_cons, List.take_zero, List.getD_cons_zero] at hpx ⊢
    refine CallK_pure he hpx rfl ?_
    simp (maxSteps := 2000000) only [go_sem, ↓reduceIte, reduceCtorEq, Nat.reduceAdd, Nat.reduceMul, Nat.reduceSub, Nat.reduceLT, Nat.reduceLeDiff, Nat.reduceEqDiff, Int.reduceToNat, Int.reduceLT, Int.reduceLE, Int.reduceNeg, hw]
    refine ⟨fun h => ?_, fun h => ?_⟩
    · apply hK
      simp (maxSteps := 2000000) only [go_sem, ↓reduceIte, reduceCtorEq, Nat.reduceAdd, Nat.reduceMul, Nat.reduceSub, Nat.reduceLT, Nat.reduceLeDiff, Nat.reduceEqDiff, Int.reduceToNat, Int.reduceLT, Int.reduceLE, Int.reduceNeg]
      refine Fin.intro Try.results116 [] (by simp (maxSteps := 2000000) only [go_sem, ↓reduceIte, reduceCtorEq, Nat.reduceAdd, Nat.reduceMul, Nat.reduceSub, Nat.reduceLT, Nat.reduceLeDiff, Nat.reduceEqDiff, Int.reduceToNat, Int.reduceLT, Int.reduceLE, Int.reduceNeg, resA]; rfl) ?_ ?_ (by simp) rfl (by simp) ?_ <;> try trivial
      simp only [packA, AV.renF, AV.renF1, Leaf.renF, AV.one.injEq, Leaf.dat.injEq, D.bool.injEq, D.int.injEq, D.str.injEq, AV.agg.injEq, AV.tup.injEq, List.cons.injEq, and_true, true_and, List.map_cons, List.map_nil]
      exact (ixF_some hlt h ht).symm
    · apply hK
      refine ⟨l.length - (i + 1), _, by omega, Ent.weak (ids := []) (by simp) rfl (by simp) (by simp [objsLe, envLe, find, St.obj, AObj.renF, AV.renF, AV.renF1, Leaf.renF, LowAll, AV.Low, AV.Low1, Leaf.Low, AObj.Low, Ptr.renF, Ptr.Low]) (by simp [objsLe, envLe, find, St.obj, AObj.renF, AV.renF, AV.renF1, Leaf.renF, LowAll, AV.Low, AV.Low1, Leaf.Low, AObj.Low, Ptr.renF, Ptr.Low]) (by simp [objsLe, envLe, find, St.obj, AObj.renF, AV.renF, AV.renF1, Leaf.renF, LowAll, AV.Low, AV.Low1, Leaf.Low, AObj.Low, Ptr.renF, Ptr.Low]), i + 1, by omega, rfl, fun j hj hji => ?_, rfl⟩
      by_cases e : j = i
      · subst e; exact h
      · exact ht j hj (by omega)
  · have hge : i = l.length := by simp at h; omega
    subst hge
    apply hK
    simp (maxSteps := 2000000) only [go_sem, ↓reduceIte, reduceCtorEq, Nat.reduceAdd, Nat.reduceMul, Nat.reduceSub, Nat.reduceLT, Nat.reduceLeDiff, Nat.reduceEqDiff, Int.reduceToNat, Int.reduceLT, Int.reduceLE, Int.reduceNeg]
    refine Fin.intro Try.results116 [] (by simp (maxSteps := 2000000) only [go_sem, ↓reduceIte, reduceCtorEq, Nat.reduceAdd, Nat.reduceMul, Nat.reduceSub, Nat.reduceLT, Nat.reduceLeDiff, Nat.reduceEqDiff, Int.reduceToNat, Int.reduceLT, Int.reduceLE, Int.reduceNeg, resA]; rfl) ?_ ?_ (by simp) rfl (by simp) ?_ <;> try trivial
    simp only [packA, AV.renF, AV.renF1, Leaf.renF, AV.one.injEq, Leaf.dat.injEq, D.bool.injEq, D.int.injEq, D.str.injEq, AV.agg.injEq, AV.tup.injEq, List.cons.injEq, and_true, true_and, List.map_cons, List.map_nil]
    exact (ixF_none fun j hj => ht j hj hj).symm
theorem c101_k0 (l : List Cmd) (hl : l.length ≤ maxLen) {fid : FuncId} {p : Cmd → Bool} (he : enters Try.prog fid = true)
    (hp : ∀ x ∈ l, Ctr Try.prog fid [.agg ((encCmd x).map .dat)] [] (.one (.dat (.bool (p x)))) []) : Ctr Try.prog 101 [.one (.dat (.sl 3 (l.map encCmd))), .one (.fn fid [])] [] (.one (.dat (.bool (l.any p)))) [] := by
  refine Ctr.body mixed Try.func101 rfl (by kernel_rfl) (Nat.le_of_ble_eq_true rfl) (by simp [AV.Clean, AV.Clean1, Leaf.Clean, D.flat]) (by simp [AObj.Sep]) (by simp [AV.Low, AV.Low1, Leaf.Low]) ?_
  simp (maxSteps := 2000000) only [go_sem, ↓reduceIte, reduceCtorEq, Nat.reduceAdd, Nat.reduceMul, Nat.reduceSub, Nat.reduceLT, Nat.reduceLeDiff, Nat.reduceEqDiff, Int.reduceToNat, Int.reduceLT, Int.reduceLE, Int.reduceNeg]
  refine CallK_pure e116 (c116_k0 l hl he hp) rfl ?_
  simp (maxSteps := 2000000) only [go_sem, ↓reduceIte, reduceCtorEq, Nat.reduceAdd, Nat.reduceMul, Nat.reduceSub, Nat.reduceLT, Nat.reduceLeDiff, Nat.reduceEqDiff, Int.reduceToNat, Int.reduceLT, Int.reduceLE, Int.reduceNeg]
  refine Fin.intro Try.results101 [] (by simp (maxSteps := 2000000) only [go_sem, ↓reduceIte, reduceCtorEq, Nat.reduceAdd, Nat.reduceMul, Nat.reduceSub, Nat.reduceLT, Nat.reduceLeDiff, Nat.reduceEqDiff, Int.reduceToNat, Int.reduceLT, Int.reduceLE, Int.reduceNeg, resA]; rfl) ?_ ?_ (by simp) rfl (by simp) ?_ <;> try trivial
  simp only [packA, AV.renF, AV.renF1, Leaf.renF, AV.one.injEq, Leaf.dat.injEq, D.bool.injEq, D.int.injEq, D.str.injEq, AV.agg.injEq, AV.tup.injEq, List.cons.injEq, and_true, true_and, List.map_cons, List.map_nil]
  exact ixF_any p l
theorem c116_k1 (l : List Cmd) (hl : l.length ≤ maxLen) {fid : FuncId} {m : Nat} {r : List D} {p : Cmd → Bool} (he : enters Try.prog fid = true)
    (hp : ∀ x ∈ l, Ctr Try.prog fid [.agg ((encCmd x).map .dat), .one (.ptr (.ro m [r] 0 0))] [] (.one (.dat (.bool (p x)))) []) : Ctr Try.prog 116 [.one (.dat (.sl 3 (l.map encCmd))), .one (.fn fid [.ro m [r] 0 0])] [] (.one (.dat (.int .i64 (ixF p l)))) [] := by
  refine Ctr.body mixed Try.func116 rfl (by kernel_rfl) (Nat.le_of_ble_eq_true rfl) (by simp [AV.Clean, AV.Clean1, Leaf.Clean, D.flat]) (by simp [AObj.Sep]) (by simp [AV.Low, AV.Low1, Leaf.Low]) ?_
  simp (maxSteps := 2000000) only [go_sem, ↓reduceIte, reduceCtorEq, Nat.reduceAdd, Nat.reduceMul, Nat.reduceSub, Nat.reduceLT, Nat.reduceLeDiff, Nat.reduceEqDiff, Int.reduceToNat, Int.reduceLT, Int.reduceLE, Int.reduceNeg]
  refine LoopK_intro (fun n s => ∃ i : Nat, i ≤ l.length ∧ n = l.length - i ∧ (∀ j (hj : j < l.length), j < i → p l[j] = false) ∧ s = mkSt [(8, .one (.dat (.int .i64 i))), (7, .one (.dat (.int .i64 l.length))), (1, .one (.fn fid [.ro m [r] 0 0])), (0, .one (.dat (.sl 3 (l.map encCmd))))] []) l.length _
    (Ent.weak (ids := []) (by simp) rfl (by simp) (by simp [objsLe, envLe, find, St.obj, AObj.renF, AV.renF, AV.renF1, Leaf.renF, LowAll, AV.Low, AV.Low1, Leaf.Low, AObj.Low, Ptr.renF, Ptr.Low]) (by simp [objsLe, envLe, find, St.obj, AObj.renF, AV.renF, AV.renF1, Leaf.renF, LowAll, AV.Low, AV.Low1, Leaf.Low, AObj.Low, Ptr.renF, Ptr.Low]) (by simp [objsLe, envLe, find, St.obj, AObj.renF, AV.renF, AV.renF1, Leaf.renF, LowAll, AV.Low, AV.Low1, Leaf.Low, AObj.Low, Ptr.renF, Ptr.Low])) ⟨0, by omega, by omega, by simp, rfl⟩ ?_
  rintro n s ⟨i, hi, rfl, ht, rfl⟩ K hK
  simp (maxSteps := 2000000) only [go_sem, ↓reduceIte, reduceCtorEq, Nat.reduceAdd, Nat.reduceMul, Nat.reduceSub, Nat.reduceLT, Nat.reduceLeDiff, Nat.reduceEqDiff, Int.reduceToNat, Int.reduceLT, Int.reduceLE, Int.reduceNeg]
  refine ⟨fun h => ?_, fun h => ?_⟩
  · have hlt : i < l.length := by simpa using h
    have hw := wrap_succ hlt hl
    refine ⟨⟨by omega, by omega⟩, hlt, ?_⟩
    have hpx := hp l[i] (List.getElem_mem hlt)
    simp only [getD_map hlt, encCmd, List.map_cons, List.map_nil, List.take_succ_cons, List.take_zero, List.getD_cons_zero] at hpx ⊢
    refine CallK_pure he hpx rfl ?_
    simp (maxSteps := 2000000) only [go_sem, ↓reduceIte, reduceCtorEq, Nat.reduceAdd, Nat.reduceMul, Nat.reduceSub, Nat.reduceLT, Nat.reduceLeDiff, Nat.reduceEqDiff, Int.reduceToNat, Int.reduceLT, Int.reduceLE, Int.reduceNeg, hw]
    refine ⟨fun h => ?_, fun h => ?_⟩
    · apply hK
      simp (maxSteps := 2000000) only [go_sem, ↓reduceIte, reduceCtorEq, Nat.reduceAdd, Nat.reduceMul, Nat.reduceSub, Nat.reduceLT, Nat.reduceLeDiff, Nat.reduceEqDiff, Int.reduceToNat, Int.reduceLT, Int.reduceLE, Int.reduceNeg]
      refine Fin.intro Try.results116 [] (by simp (maxSteps := 2000000) only [go_sem, ↓reduceIte, reduceCtorEq, Nat.reduceAdd, Nat.reduceMul, Nat.reduceSub, Nat.reduceLT, Nat.reduceLeDiff, Nat.reduceEqDiff, Int.reduceToNat, Int.reduceLT, Int.reduceLE, Int.reduceNeg, resA]; rfl) ?_ ?_ (by simp) rfl (by simp) ?_ <;> try trivial
      simp only [packA, AV.renF, AV.renF1, Leaf.renF, AV.one.injEq, Leaf.dat.injEq, D.bool.injEq, D.int.injEq, D.str.injEq, AV.agg.injEq, AV.tup.injEq, List.cons.injEq, and_true, true_and, List.map_cons, List.map_nil]
      exact (ixF_some hlt h ht).symm
    · apply hK
      refine ⟨l.length - (i + 1), _, by omega, Ent.weak (ids := []) (by simp) rfl (by simp) (by simp [objsLe, envLe, find, St.obj, AObj.renF, AV.renF, AV.renF1, Leaf.renF, LowAll, AV.Low, AV.Low1, Leaf.Low, AObj.Low, Ptr.renF, Ptr.Low]) (by simp [objsLe, envLe, find, St.obj, AObj.renF, AV.renF, AV.renF1, Leaf.renF, LowAll, AV.Low, AV.Low1, Leaf.Low, AObj.Low, Ptr.renF, Ptr.Low]) (by simp [objsLe, envLe, find, St.obj, AObj.renF, AV.renF, AV.renF1, Leaf.renF, LowAll, AV.Low, AV.Low1, Leaf.Low, AObj.Low, Ptr.renF, Ptr.Low]), i + 1, by omega, rfl, fun j hj hji => ?_, rfl⟩
      by_cases e : j = i
      · subst e; exact h
      · exact ht j hj (by omega)
  · have hge : i = l.length := by simp at h; omega
    subst hge
    apply hK
    simp (maxSteps := 2000000) only [go_sem, ↓reduceIte, reduceCtorEq, Nat.reduceAdd, Nat.reduceMul, Nat.reduceSub, Nat.reduceLT, Nat.reduceLeDiff, Nat.reduceEqDiff, Int.reduceToNat, Int.reduceLT, Int.reduceLE, Int.reduceNeg]
    refine Fin.intro Try.results116 [] (by simp (maxSteps := 2000000) only [go_sem, ↓reduceIte, reduceCtorEq, Nat.reduceAdd, Nat.reduceMul, Nat.reduceSub, Nat.reduceLT, Nat.reduceLeDiff, Nat.reduceEqDiff, Int.reduceToNat, Int.reduceLT, Int.reduceLE, Int.reduceNeg, resA]; rfl) ?_ ?_ (by simp) rfl (by simp) ?_ <;> try trivial
    simp only [packA, AV.renF, AV.renF1, Leaf.renF, AV.one.injEq, Leaf.dat.injEq, D.bool.injEq, D.int.injEq, D.str.injEq, AV.agg.injEq, AV.tup.injEq, List.cons.injEq, and_true, true_and, List.map_cons, List.map_nil]
    exact (ixF_none fun j hj => ht j hj hj).symm
theorem c101_k1 (l : List Cmd) (hl : l.length ≤ maxLen) {fid : FuncId} {m : Nat} {r : List D} {p : Cmd → Bool} (he : enters Try.prog fid = true)
    (hp : ∀ x ∈ l, Ctr Try.prog fid [.agg ((encCmd x).map .dat), .one (.ptr (.ro m [r] 0 0))] [] (.one (.dat (.bool (p x)))) []) : Ctr Try.prog 101 [.one (.dat (.sl 3 (l.map encCmd))), .one (.fn fid [.ro m [r] 0 0])] [] (.one (.dat (.bool (l.any p)))) [] := by
  refine Ctr.body mixed Try.func101 rfl (by kernel_rfl) (Nat.le_of_ble_eq_true rfl) (by simp [AV.Clean, AV.Clean1, Leaf.Clean, D.flat]) (by simp [AObj.Sep]) (by simp [AV.Low, AV.Low1, Leaf.Low]) ?_
  simp (maxSteps := 2000000) only [go_sem, ↓reduceIte, reduceCtorEq, Nat.reduceAdd, Nat.reduceMul, Nat.reduceSub, Nat.reduceLT, Nat.reduceLeDiff, Nat.reduceEqDiff, Int.reduceToNat, Int.reduceLT, Int.reduceLE, Int.reduceNeg]
  refine CallK_pure e116 (c116_k1 l hl he hp) rfl ?_
  simp (maxSteps := 2000000) only [go_sem, ↓reduceIte, reduceCtorEq, Nat.reduceAdd, Nat.reduceMul, Nat.reduceSub, Nat.reduceLT, Nat.reduceLeDiff, Nat.reduceEqDiff, Int.reduceToNat, Int.reduceLT, Int.reduceLE, Int.reduceNeg]
  refine Fin.intro Try.results101 [] (by simp (maxSteps := 2000000) only [go_sem, ↓reduceIte, reduceCtorEq, Nat.reduceAdd, Nat.reduceMul, Nat.reduceSub, Nat.reduceLT, Nat.reduceLeDiff, Nat.reduceEqDiff, Int.reduceToNat, Int.reduceLT, Int.reduceLE, Int.reduceNeg, resA]; rfl) ?_ ?_ (by simp) rfl (by simp) ?_ <;> try trivial
  simp only [packA, AV.renF, AV.renF1, Leaf.renF, AV.one.injEq, Leaf.dat.injEq, D.bool.injEq, D.int.injEq, D.str.injEq, AV.agg.injEq, AV.tup.injEq, List.cons.injEq, and_true, true_and, List.map_cons, List.map_nil]
  exact ixF_any p l
theorem c116_k2 (l : List Cmd) (hl : l.length ≤ maxLen) {fid : FuncId} {m m2 : Nat} {r r2 : List D} {p : Cmd → Bool} (he : enters Try.prog fid = true)
    (hp : ∀ x ∈ l, Ctr Try.prog fid [.agg ((encCmd x).map .dat), .one (.ptr (.ro m [r] 0 0)), .one (.ptr (.ro m2 [r2] 0 0))] [] (.one (.dat (.bool (p x)))) []) : Ctr Try.prog 116 [.one (.dat (.sl 3 (l.map encCmd))), .one (.fn fid [.ro m [r] 0 0, .ro m2 [r2] 0 0])] [] (.one (.dat (.int .i64 (ixF p l)))) [] := by
  refine Ctr.body mixed Try.func116 rfl (by kernel_rfl) (Nat.le_of_ble_eq_true rfl) (by simp [AV.Clean, AV.Clean1, Leaf.Clean, D.flat]) (by simp [AObj.Sep]) (by simp [AV.Low, AV.Low1, Leaf.Low]) ?_
  simp (maxSteps := 2000000) only [go_sem, ↓reduceIte, reduceCtorEq, Nat.reduceAdd, Nat.reduceMul, Nat.reduceSub, Nat.reduceLT, Nat.reduceLeDiff, Nat.reduceEqDiff, Int.reduceToNat, Int.reduceLT, Int.reduceLE, Int.reduceNeg]
  refine LoopK_intro (fun n s => ∃ i : Nat, i ≤ l.length ∧ n = l.length - i ∧ (∀ j (hj : j < l.length), j < i → p l[j] = false) ∧ s = mkSt [(8, .one (.dat (.int .i64 i))), (7, .one (.dat (.int .i64 l.length))), (1, .one (.fn fid [.ro m [r] 0 0, .ro m2 [r2] 0 0])), (0, .one (.dat (.sl 3 (l.map encCmd))))] []) l.length _
    (Ent.weak (ids := []) (by simp) rfl (by simp) (by simp [objsLe, envLe, find, St.obj, AObj.renF, AV.renF, AV.renF1, Leaf.renF, LowAll, AV.Low, AV.Low1, Leaf.Low, AObj.Low, Ptr.renF, Ptr.Low]) (by simp [objsLe, envLe, find, St.obj, AObj.renF, AV.renF, AV.renF1, Leaf.renF, LowAll, AV.Low, AV.Low1, Leaf.Low, AObj.Low, Ptr.renF, Ptr.Low]) (by simp [objsLe, envLe, find, St.obj, AObj.renF, AV.renF, AV.renF1, Leaf.renF, LowAll, AV.Low, AV.Low1, Leaf.Low, AObj.Low, Ptr.renF, Ptr.Low])) ⟨0, by omega, by omega, by simp, rfl⟩ ?_
  rintro n s ⟨i, hi, rfl, ht, rfl⟩ K hK
  simp (maxSteps := 2000000) only [go_sem, ↓reduceIte, reduceCtorEq, Nat.reduceAdd, Nat.reduceMul, Nat.reduceSub, Nat.reduceLT, Nat.reduceLeDiff, Nat.reduceEqDiff, Int.reduceToNat, Int.reduceLT, Int.reduceLE, Int.reduceNeg]
  refine ⟨fun h => ?_, fun h => ?_⟩
  · have hlt : i < l.length := by simpa using h
    have hw := wrap_succ hlt hl
    refine ⟨⟨by omega, by omega⟩, hlt, ?_⟩
    have hpx := hp l[i] (List.getElem_mem hlt)
    simp only [getD_map hlt, encCmd, List.map_cons, List.map_nil, List.take_succ_cons, List.take_zero, List.getD_cons_zero] at hpx ⊢
    refine CallK_pure he hpx rfl ?_
    simp (maxSteps := 2000000) only [go_sem, ↓reduceIte, reduceCtorEq, Nat.reduceAdd, Nat.reduceMul, Nat.reduceSub, Nat.reduceLT, Nat.reduceLeDiff, Nat.reduceEqDiff, Int.reduceToNat, Int.reduceLT, Int.reduceLE, Int.reduceNeg, hw]
    refine ⟨fun h => ?_, fun h => ?_⟩
    · apply hK
      simp (maxSteps := 2000000) only [go_sem, ↓reduceIte, reduceCtorEq, Nat.reduceAdd, Nat.reduceMul, Nat.reduceSub, Nat.reduceLT, Nat.reduceLeDiff, Nat.reduceEqDiff, Int.reduceToNat, Int.reduceLT, Int.reduceLE, Int.reduceNeg]
      refine Fin.intro Try.results116 [] (by simp (maxSteps := 2000000) only [go_sem, ↓reduceIte, reduceCtorEq, Nat.reduceAdd, Nat.reduceMul, Nat.reduceSub, Nat.reduceLT, Nat.reduceLeDiff, Nat.reduceEqDiff, Int.reduceToNat, Int.reduceLT, Int.reduceLE, Int.reduceNeg, resA]; rfl) ?_ ?_ (by simp) rfl (by simp) ?_ <;> try trivial
      simp only [packA, AV.renF, AV.renF1, Leaf.renF, AV.one.injEq, Leaf.dat.injEq, D.bool.injEq, D.int.injEq, D.str.injEq, AV.agg.injEq, AV.tup.injEq, List.cons.injEq, and_true, true_and, List.map_cons, List.map_nil]
      exact (ixF_some hlt h ht).symm
    · apply hK
      refine ⟨l.length - (i + 1), _, by omega, Ent.weak (ids := []) (by simp) rfl (by simp) (by simp [objsLe, envLe, find, St.obj, AObj.renF, AV.renF, AV.renF1, Leaf.renF, LowAll, AV.Low, AV.Low1, Leaf.Low, AObj.Low, Ptr.renF, Ptr.Low]) (by simp [objsLe, envLe, find, St.obj, AObj.renF, AV.renF, AV.renF1, Leaf.renF, LowAll, AV.Low, AV.Low1, Leaf.Low, AObj.Low, Ptr.renF, Ptr.Low]) (by simp [objsLe, envLe, find, St.obj, AObj.renF, AV.renF, AV.renF1, Leaf.renF, LowAll, AV.Low, AV.Low1, Leaf.Low, AObj.Low, Ptr.renF, Ptr.Low]), i + 1, by omega, rfl, fun j hj hji => ?_, rfl⟩
      by_cases e : j = i
      · subst e; exact h
      · exact ht j hj (by omega)
  · have hge : i = l.length := by simp at h; omega
    subst hge
    apply hK
    simp (maxSteps := 2000000) only [go_sem, ↓reduceIte, reduceCtorEq, Nat.reduceAdd, Nat.reduceMul, Nat.reduceSub, Nat.reduceLT, Nat.reduceLeDiff, Nat.reduceEqDiff, Int.reduceToNat, Int.reduceLT, Int.reduceLE, Int.reduceNeg]
    refine Fin.intro Try.results116 [] (by simp (maxSteps := 2000000) only [go_sem, ↓reduceIte, reduceCtorEq, Nat.reduceAdd, Nat.reduceMul, Nat.reduceSub, Nat.reduceLT, Nat.reduceLeDiff, Nat.reduceEqDiff, Int.reduceToNat, Int.reduceLT, Int.reduceLE, Int.reduceNeg, resA]; rfl) ?_ ?_ (by simp) rfl (by simp) ?_ <;> try trivial
    simp only [packA, AV.renF, AV.renF1, Leaf.renF, AV.one.injEq, Leaf.dat.injEq, D.bool.injEq, D.int.injEq, D.str.injEq, AV.agg.injEq, AV.tup.injEq, List.cons.injEq, and_true, true_and, List.map_cons, List.map_nil]
    exact (ixF_none fun j hj => ht j hj hj).symm
theorem c101_k2 (l : List Cmd) (hl : l.length ≤ maxLen) {fid : FuncId} {m m2 : Nat} {r r2 : List D} {p : Cmd → Bool} (he : enters Try.prog fid = true)
    (hp : ∀ x ∈ l, Ctr Try.prog fid [.agg ((encCmd x).map .dat), .one (.ptr (.ro m [r] 0 0)), .one (.ptr (.ro m2 [r2] 0 0))] [] (.one (.dat (.bool (p x)))) []) : Ctr Try.prog 101 [.one (.dat (.sl 3 (l.map encCmd))), .one (.fn fid [.ro m [r] 0 0, .ro m2 [r2] 0 0])] [] (.one (.dat (.bool (l.any p)))) [] := by
  refine Ctr.body mixed Try.func101 rfl (by kernel_rfl) (Nat.le_of_ble_eq_true rfl) (by simp [AV.Clean, AV.Clean1, Leaf.Clean, D.flat]) (by simp [AObj.Sep]) (by simp [AV.Low, AV.Low1, Leaf.Low]) ?_
  simp (maxSteps := 2000000) only [go_sem, ↓reduceIte, reduceCtorEq, Nat.reduceAdd, Nat.reduceMul, Nat.reduceSub, Nat.reduceLT, Nat.reduceLeDiff, Nat.reduceEqDiff, Int.reduceToNat, Int.reduceLT, Int.reduceLE, Int.reduceNeg]
  refine CallK_pure e116 (c116_k2 l hl he hp) rfl ?_
  simp (maxSteps := 2000000) only [go_sem, ↓reduceIte, reduceCtorEq, Nat.reduceAdd, Nat.reduceMul, Nat.reduceSub, Nat.reduceLT, Nat.reduceLeDiff, Nat.reduceEqDiff, Int.reduceToNat, Int.reduceLT, Int.reduceLE, Int.reduceNeg]
  refine Fin.intro Try.results101 [] (by simp (maxSteps := 2000000) only [go_sem, ↓reduceIte, reduceCtorEq, Nat.reduceAdd, Nat.reduceMul, Nat.reduceSub, Nat.reduceLT, Nat.reduceLeDiff, Nat.reduceEqDiff, Int.reduceToNat, Int.reduceLT, Int.reduceLE, Int.reduceNeg, resA]; rfl) ?_ ?_ (by simp) rfl (by simp) ?_ <;> try trivial
  simp only [packA, AV.renF, AV.renF1, Leaf.renF, AV.one.injEq, Leaf.dat.injEq, D.bool.injEq, D.int.injEq, D.str.injEq, AV.agg.injEq, AV.tup.injEq, List.cons.injEq, and_true, true_and, List.map_cons, List.map_nil]
  exact ixF_any p l
theorem c80_k0 (l : List KV) (hl : l.length ≤ maxLen) {fid : FuncId} {p : KV → Bool} (he : enters Try.prog fid = true)
    (hp : ∀ x ∈ l, Ctr Try.prog fid [.agg ((encKV x).map .dat)] [] (.one (.dat (.bool (p x)))) []) : Ctr Try.prog 80 [.one (.dat (.sl 2 (l.map encKV))), .one (.fn fid [])] [] (.one (.dat (.int .i64 (ixF p l)))) [] := by
  refine Ctr.body mixed Try.func80 rfl (by kernel_rfl) (Nat.le_of_ble_eq_true rfl) (by simp [AV.Clean, AV.Clean1, Leaf.Clean, D.flat]) (by simp [AObj.Sep]) (by simp [AV.Low, AV.Low1, Leaf.Low]) ?_
  simp (maxSteps := 2000000) only [go_sem, ↓reduceIte, reduceCtorEq, Nat.reduceAdd, Nat.reduceMul, Nat.reduceSub, Nat.reduceLT, Nat.reduceLeDiff, Nat.reduceEqDiff, Int.reduceToNat, Int.reduceLT, Int.reduceLE, Int.reduceNeg]
  refine LoopK_intro (fun n s => ∃ i : Nat, i ≤ l.length ∧ n = l.length - i ∧ (∀ j (hj : j < l.length), j < i → p l[j] = false) ∧ s = mkSt [(8, .one (.dat (.int .i64 i))), (7, .one (.dat (.int .i64 l.length))), (1, .one (.fn fid [])), (0, .one (.dat (.sl 2 (l.map encKV))))] []) l.length _
    (Ent.weak (ids := []) (by simp) rfl (by simp) (by simp [objsLe, envLe, find, St.obj, AObj.renF, AV.renF, AV.renF1, Leaf.renF, LowAll, AV.Low, AV.Low1, Leaf.Low, AObj.Low, Ptr.renF, Ptr.Low]) (by simp [objsLe, envLe, find, St.obj, AObj.renF, AV.renF, AV.renF1, Leaf.renF, LowAll, AV.Low, AV.Low1, Leaf.Low, AObj.Low, Ptr.renF, Ptr.Low]) (by simp [objsLe, envLe, find, St.obj, AObj.renF, AV.renF, AV.renF1, Leaf.renF, LowAll, AV.Low, AV.Low1, Leaf.Low, AObj.Low, Ptr.renF, Ptr.Low])) ⟨0, by omega, by omega, by simp, rfl⟩ ?_
  rintro n s ⟨i, hi, rfl, ht, rfl⟩ K hK
  simp (maxSteps := 2000000) only [go_sem, ↓reduceIte, reduceCtorEq, Nat.reduceAdd, Nat.reduceMul, Nat.reduceSub, Nat.reduceLT, Nat.reduceLeDiff, Nat.reduceEqDiff, Int.reduceToNat, Int.reduceLT, Int.reduceLE, Int.reduceNeg]
  refine ⟨fun h => ?_, fun h => ?_⟩
  · have hlt : i < l.length := by simpa using h
    have hw := wrap_succ hlt hl
    refine ⟨⟨by omega, by omega⟩, hlt, ?_⟩
    have hpx := hp l[i] (List.getElem_mem hlt)
    simp only [getD_map hlt, encKV, List.map_cons, List.map_nil, List.take_succ_cons, List.take_zero, List.getD_cons_zero] at hpx ⊢
    refine CallK_pure he hpx rfl ?_
    simp (maxSteps := 2000000) only [go_sem, ↓reduceIte, reduceCtorEq, Nat.reduceAdd, Nat.reduceMul, Nat.reduceSub, Nat.reduceLT, Nat.reduceLeDiff, Nat.reduceEqDiff, Int.reduceToNat, Int.reduceLT, Int.reduceLE, Int.reduceNeg, hw]
    refine ⟨fun h => ?_, fun h => ?_⟩
    · apply hK
      simp (maxSteps := 2000000) only [go_sem, ↓reduceIte, reduceCtorEq, Nat.reduceAdd, Nat.reduceMul, Nat.reduceSub, Nat.reduceLT, Nat.reduceLeDiff, Nat.reduceEqDiff, Int.reduceToNat, Int.reduceLT, Int.reduceLE, Int.reduceNeg]
      refine Fin.intro Try.results80 [] (by simp (maxSteps := 2000000) only [go_sem, ↓reduceIte, reduceCtorEq, Nat.reduceAdd, Nat.reduceMul, Nat.reduceSub, Nat.reduceLT, Nat.reduceLeDiff, Nat.reduceEqDiff, Int.reduceToNat, Int.reduceLT, Int.reduceLE, Int.reduceNeg, resA]; rfl) ?_ ?_ (by simp) rfl (by simp) ?_ <;> try trivial
      simp only [packA, AV.renF, AV.renF1, Leaf.renF, AV.one.injEq, Leaf.dat.injEq, D.bool.injEq, D.int.injEq, D.str.injEq, AV.agg.injEq, AV.tup.injEq, List.cons.injEq, and_true, true_and, List.map_cons, List.map_nil]
      exact (ixF_some hlt h ht).symm
    · apply hK
      refine ⟨l.length - (i + 1), _, by omega, Ent.weak (ids := []) (by simp) rfl (by simp) (by simp [objsLe, envLe, find, St.obj, AObj.renF, AV.renF, AV.renF1, Leaf.renF, LowAll, AV.Low, AV.Low1, Leaf.Low, AObj.Low, Ptr.renF, Ptr.Low]) (by simp [objsLe, envLe, find, St.obj, AObj.renF, AV.renF, AV.renF1, Leaf.renF, LowAll, AV.Low, AV.Low1, Leaf.Low, AObj.Low, Ptr.renF, Ptr.Low]) (by simp [objsLe, envLe, find, St.obj, AObj.renF, AV.renF, AV.renF1, Leaf.renF, LowAll, AV.Low, AV.Low1, Leaf.Low, AObj.Low, Ptr.renF, Ptr.Low]), i + 1, by omega, rfl, fun j hj hji => ?_, rfl⟩
      by_cases e : j = i
      · subst e; exact h
      · exact ht j hj (by omega)
  · have hge : i = l.length := by simp at h; omega
    subst hge
    apply hK
    simp (maxSteps := 2000000) only [go_sem, ↓reduceIte, reduceCtorEq, Nat.reduceAdd, Nat.reduceMul, Nat.reduceSub, Nat.reduceLT, Nat.reduceLeDiff, Nat.reduceEqDiff, Int.reduceToNat, Int.reduceLT, Int.reduceLE, Int.reduceNeg]
    refine Fin.intro Try.results80 [] (by simp (maxSteps := 2000000) only [go_sem, ↓reduceIte, reduceCtorEq, Nat.reduceAdd, Nat.reduceMul, Nat.reduceSub, Nat.reduceLT, Nat.reduceLeDiff, Nat.reduceEqDiff, Int.reduceToNat, Int.reduceLT, Int.reduceLE, Int.reduceNeg, resA]; rfl) ?_ ?_ (by simp) rfl (by simp) ?_ <;> try trivial
    simp only [packA, AV.renF, AV.renF1, Leaf.renF, AV.one.injEq, Leaf.dat.injEq, D.bool.injEq, D.int.injEq, D.str.injEq, AV.agg.injEq, AV.tup.injEq, List.cons.injEq, and_true, true_and, List.map_cons, List.map_nil]
    exact (ixF_none fun j hj => ht j hj hj).symm
theorem c80_k1 (l : List KV) (hl : l.length ≤ maxLen) {fid : FuncId} {m : Nat} {r : List D} {p : KV → Bool} (he : enters Try.prog fid = true)
    (hp : ∀ x ∈ l, Ctr Try.prog fid [.agg ((encKV x).map .dat), .one (.ptr (.ro m [r] 0 0))] [] (.one (.dat (.bool (p x)))) []) : Ctr Try.prog 80 [.one (.dat (.sl 2 (l.map encKV))), .one (.fn fid [.ro m [r] 0 0])] [] (.one (.dat (.int .i64 (ixF p l)))) [] := by
  refine Ctr.body mixed Try.func80 rfl (by kernel_rfl) (Nat.le_of_ble_eq_true rfl) (by simp [AV.Clean, AV.Clean1, Leaf.Clean, D.flat]) (by simp [AObj.Sep]) (by simp [AV.Low, AV.Low1, Leaf.Low]) ?_
  simp (maxSteps := 2000000) only [go_sem, ↓reduceIte, reduceCtorEq, Nat.reduceAdd, Nat.reduceMul, Nat.reduceSub, Nat.reduceLT, Nat.reduceLeDiff, Nat.reduceEqDiff, Int.reduceToNat, Int.reduceLT, Int.reduceLE, Int.reduceNeg]
  refine LoopK_intro (fun n s => ∃ i : Nat, i ≤ l.length ∧ n = l.length - i ∧ (∀ j (hj : j < l.length), j < i → p l[j] = false) ∧ s = mkSt [(8, .one (.dat (.int .i64 i))), (7, .one (.dat (.int .i64 l.length))), (1, .one (.fn fid [.ro m [r] 0 0])), (0, .one (.dat (.sl 2 (l.map encKV))))] []) l.length _
    (Ent.weak (ids := []) (by simp) rfl (by simp) (by simp [objsLe, envLe, find, St.obj, AObj.renF, AV.renF, AV.renF1, Leaf.renF, LowAll, AV.Low, AV.Low1, Leaf.Low, AObj.Low, Ptr.renF, Ptr.Low]) (by simp [objsLe, envLe, find, St.obj, AObj.renF, AV.renF, AV.renF1, Leaf.renF, LowAll, AV.Low, AV.Low1, Leaf.Low, AObj.Low, Ptr.renF, Ptr.Low]) (by simp [objsLe, envLe, find, St.obj, AObj.renF, AV.renF, AV.renF1, Leaf.renF, LowAll, AV.Low, AV.Low1, Leaf.Low, AObj.Low, Ptr.renF, Ptr.Low])) ⟨0, by omega, by omega, by simp, rfl⟩ ?_
  rintro n s ⟨i, hi, rfl, ht, rfl⟩ K hK
  simp (maxSteps := 2000000) only [go_sem, ↓reduceIte, reduceCtorEq, Nat.reduceAdd, Nat.reduceMul, Nat.reduceSub, Nat.reduceLT, Nat.reduceLeDiff, Nat.reduceEqDiff, Int.reduceToNat, Int.reduceLT, Int.reduceLE, Int.reduceNeg]
  refine ⟨fun h => ?_, fun h => ?_⟩
  · have hlt : i < l.length := by simpa using h
    have hw := wrap_succ hlt hl
    refine ⟨⟨by omega, by omega⟩, hlt, ?_⟩
    have hpx := hp l[i] (List.getElem_mem hlt)
    simp only [getD_map hlt, encKV, List.map_cons, List.map_nil, List.take_succ_cons, List.take_zero, List.getD_cons_zero] at hpx ⊢
    refine CallK_pure he hpx rfl ?_
    simp (maxSteps := 2000000) only [go_sem, ↓reduceIte, reduceCtorEq, Nat.reduceAdd, Nat.reduceMul, Nat.reduceSub, Nat.reduceLT, Nat.reduceLeDiff, Nat.reduceEqDiff, Int.reduceToNat, Int.reduceLT, Int.reduceLE, Int.reduceNeg, hw]
    refine ⟨fun h => ?_, fun h => ?_⟩
    · apply hK
      simp (maxSteps := 2000000) only [go_sem, ↓reduceIte, reduceCtorEq, Nat.reduceAdd, Nat.reduceMul, Nat.reduceSub, Nat.reduceLT, Nat.reduceLeDiff, Nat.reduceEqDiff, Int.reduceToNat, Int.reduceLT, Int.reduceLE, Int.reduceNeg]
      refine Fin.intro Try.results80 [] (by simp (maxSteps := 2000000) only [go_sem, ↓reduceIte, reduceCtorEq, Nat.reduceAdd, Nat.reduceMul, Nat.reduceSub, Nat.reduceLT, Nat.reduceLeDiff, Nat.reduceEqDiff, Int.reduceToNat, Int.reduceLT, Int.reduceLE, Int.reduceNeg, resA]; rfl) ?_ ?_ (by simp) rfl (by simp) ?_ <;> try trivial
      simp only [packA, AV.renF, AV.renF1, Leaf.renF, AV.one.injEq, Leaf.dat.injEq, D.bool.injEq, D.int.injEq, D.str.injEq, AV.agg.injEq, AV.tup.injEq, List.cons.injEq, and_true, true_and, List.map_cons, List.map_nil]
      exact (ixF_some hlt h ht).symm
    · apply hK
      refine ⟨l.length - (i + 1), _, by omega, Ent.weak (ids := []) (by simp) rfl (by simp) (by simp [objsLe, envLe, find, St.obj, AObj.renF, AV.renF, AV.renF1, Leaf.renF, LowAll, AV.Low, AV.Low1, Leaf.Low, AObj.Low, Ptr.renF, Ptr.Low]) (by simp [objsLe, envLe, find, St.obj, AObj.renF, AV.renF, AV.renF1, Leaf.renF, LowAll, AV.Low, AV.Low1, Leaf.Low, AObj.Low, Ptr.renF, Ptr.Low]) (by simp [objsLe, envLe, find, St.obj, AObj.renF, AV.renF, AV.renF1, Leaf.renF, LowAll, AV.Low, AV.Low1, Leaf.Low, AObj.Low, Ptr.renF, Ptr.Low]), i + 1, by omega, rfl, fun j hj hji => ?_, rfl⟩
      by_cases e : j = i
      · subst e; exact h
      · exact ht j hj (by omega)
  · have hge : i = l.length := by simp at h; omega
    subst hge
    apply hK
    simp (maxSteps := 2000000) only [go_sem, ↓reduceIte, reduceCtorEq, Nat.reduceAdd, Nat.reduceMul, Nat.reduceSub, Nat.reduceLT, Nat.reduceLeDiff, Nat.reduceEqDiff, Int.reduceToNat, Int.reduceLT, Int.reduceLE, Int.reduceNeg]
    refine Fin.intro Try.results80 [] (by simp (maxSteps := 2000000) only [go_sem, ↓reduceIte, reduceCtorEq, Nat.reduceAdd, Nat.reduceMul, Nat.reduceSub, Nat.reduceLT, Nat.reduceLeDiff, Nat.reduceEqDiff, Int.reduceToNat, Int.reduceLT, Int.reduceLE, Int.reduceNeg, resA]; rfl) ?_ ?_ (by simp) rfl (by simp) ?_ <;> try trivial
    simp only [packA, AV.renF, AV.renF1, Leaf.renF, AV.one.injEq, Leaf.dat.injEq, D.bool.injEq, D.int.injEq, D.str.injEq, AV.agg.injEq, AV.tup.injEq, List.cons.injEq, and_true, true_and, List.map_cons, List.map_nil]
    exact (ixF_none fun j hj => ht j hj hj).symm
theorem c80_k2 (l : List KV) (hl : l.length ≤ maxLen) {fid : FuncId} {m m2 : Nat} {r r2 : List D} {p : KV → Bool} (he : enters Try.prog fid = true)
    (hp : ∀ x ∈ l, Ctr Try.prog fid [.agg ((encKV x).map .dat), .one (.ptr (.ro m [r] 0 0)), .one (.ptr (.ro m2 [r2] 0 0))] [] (.one (.dat (.bool (p x)))) []) : Ctr Try.prog 80 [.one (.dat (.sl 2 (l.map encKV))), .one (.fn fid [.ro m [r] 0 0, .ro m2 [r2] 0 0])] [] (.one (.dat (.int .i64 (ixF p l)))) [] := by
  refine Ctr.body mixed Try.func80 rfl (by kernel_rfl) (Nat.le_of_ble_eq_true rfl) (by simp [AV.Clean, AV.Clean1, Leaf.Clean, D.flat]) (by simp [AObj.Sep]) (by simp [AV.Low, AV.Low1, Leaf.Low]) ?_
  simp (maxSteps := 2000000) only [go_sem, ↓reduceIte, reduceCtorEq, Nat.reduceAdd, Nat.reduceMul, Nat.reduceSub, Nat.reduceLT, Nat.reduceLeDiff, Nat.reduceEqDiff, Int.reduceToNat, Int.reduceLT, Int.reduceLE, Int.reduceNeg]
  refine LoopK_intro (fun n s => ∃ i : Nat, i ≤ l.length ∧ n = l.length - i ∧ (∀ j (hj : j < l.length), j < i → p l[j] = false) ∧ s = mkSt [(8, .one (.dat (.int .i64 i))), (7, .one (.dat (.int .i64 l.length))), (1, .one (.fn fid [.ro m [r] 0 0, .ro m2 [r2] 0 0])), (0, .one (.dat (.sl 2 (l.map encKV))))] []) l.length _
    (Ent.weak (ids := []) (by simp) rfl (by simp) (by simp [objsLe, envLe, find, St.obj, AObj.renF, AV.renF, AV.renF1, Leaf.renF, LowAll, AV.Low, AV.Low1, Leaf.Low, AObj.Low, Ptr.renF, Ptr.Low]) (by simp [objsLe, envLe, find, St.obj, AObj.renF, AV.renF, AV.renF1, Leaf.renF, LowAll, AV.Low, AV.Low1, Leaf.Low, AObj.Low, Ptr.renF, Ptr.Low]) (by simp [objsLe, envLe, find, St.obj, AObj.renF, AV.renF, AV.renF1, Leaf.renF, LowAll, AV.Low, AV.Low1, Leaf.Low, AObj.Low, Ptr.renF, Ptr.Low])) ⟨0, by omega, by omega, by simp, rfl⟩ ?_
  rintro n s ⟨i, hi, rfl, ht, rfl⟩ K hK
  simp (maxSteps := 2000000) only [go_sem, ↓reduceIte, reduceCtorEq, Nat.reduceAdd, Nat.reduceMul, Nat.reduceSub, Nat.reduceLT, Nat.reduceLeDiff, Nat.reduceEqDiff, Int.reduceToNat, Int.reduceLT, Int.reduceLE, Int.reduceNeg]
  refine ⟨fun h => ?_, fun h => ?_⟩
  · have hlt : i < l.length := by simpa using h
    have hw := wrap_succ hlt hl
    refine ⟨⟨by omega, by omega⟩, hlt, ?_⟩
    have hpx := hp l[i] (List.getElem_mem hlt)
    simp only [getD_map hlt, encKV, List.map_cons, List.map_nil, List.take_succ_cons, List.take_zero, List.getD_cons_zero] at hpx ⊢
    refine CallK_pure he hpx rfl ?_
    simp (maxSteps := 2000000) only [go_sem, ↓reduceIte, reduceCtorEq, Nat.reduceAdd, Nat.reduceMul, Nat.reduceSub, Nat.reduceLT, Nat.reduceLeDiff, Nat.reduceEqDiff, Int.reduceToNat, Int.reduceLT, Int.reduceLE, Int.reduceNeg, hw]
    refine ⟨fun h => ?_, fun h => ?_⟩
    · apply hK
      simp (maxSteps := 2000000) only [go_sem, ↓reduceIte, reduceCtorEq, Nat.reduceAdd, Nat.reduceMul, Nat.reduceSub, Nat.reduceLT, Nat.reduceLeDiff, Nat.reduceEqDiff, Int.reduceToNat, Int.reduceLT, Int.reduceLE, Int.reduceNeg]
      refine Fin.intro Try.results80 [] (by simp (maxSteps := 2000000) only [go_sem, ↓reduceIte, reduceCtorEq, Nat.reduceAdd, Nat.reduceMul, Nat.reduceSub, Nat.reduceLT, Nat.reduceLeDiff, Nat.reduceEqDiff, Int.reduceToNat, Int.reduceLT, Int.reduceLE, Int.reduceNeg, resA]; rfl) ?_ ?_ (by simp) rfl (by simp) ?_ <;> try trivial
      simp only [packA, AV.renF, AV.renF1, Leaf.renF, AV.one.injEq, Leaf.dat.injEq, D.bool.injEq, D.int.injEq, D.str.injEq, AV.agg.injEq, AV.tup.injEq, List.cons.injEq, and_true, true_and, List.map_cons, List.map_nil]
      exact (ixF_some hlt h ht).symm
    · apply hK
      refine ⟨l.length - (i + 1), _, by omega, Ent.weak (ids := []) (by simp) rfl (by simp) (by simp [objsLe, envLe, find, St.obj, AObj.renF, AV.renF, AV.renF1, Leaf.renF, LowAll, AV.Low, AV.Low1, Leaf.Low, AObj.Low, Ptr.renF, Ptr.Low]) (by simp [objsLe, envLe, find, St.obj, AObj.renF, AV.renF, AV.renF1, Leaf.renF, LowAll, AV.Low, AV.Low1, Leaf.Low, AObj.Low, Ptr.renF, Ptr.Low]) (by simp [objsLe, envLe, find, St.obj, AObj.renF, AV.renF, AV.renF1, Leaf.renF, LowAll, AV.Low, AV.Low1, Leaf.Low, AObj.Low, Ptr.renF, Ptr.Low]), i + 1, by omega, rfl, fun j hj hji => ?_, rfl⟩
      by_cases e : j = i
      · subst e; exact h
      · exact ht j hj (by omega)
  · have hge : i = l.length := by simp at h; omega
    subst hge
    apply hK
    simp (maxSteps := 2000000) only [go_sem, ↓reduceIte, reduceCtorEq, Nat.reduceAdd, Nat.reduceMul, Nat.reduceSub, Nat.reduceLT, Nat.reduceLeDiff, Nat.reduceEqDiff, Int.reduceToNat, Int.reduceLT, Int.reduceLE, Int.reduceNeg]
    refine Fin.intro Try.results80 [] (by simp (maxSteps := 2000000) only [go_sem, ↓reduceIte, reduceCtorEq, Nat.reduceAdd, Nat.reduceMul, Nat.reduceSub, Nat.reduceLT, Nat.reduceLeDiff, Nat.reduceEqDiff, Int.reduceToNat, Int.reduceLT, Int.reduceLE, Int.reduceNeg, resA]; rfl) ?_ ?_ (by simp) rfl (by simp) ?_ <;> try trivial
    simp only [packA, AV.renF, AV.renF1, Leaf.renF, AV.one.injEq, Leaf.dat.injEq, D.bool.injEq, D.int.injEq, D.str.injEq, AV.agg.injEq, AV.tup.injEq, List.cons.injEq, and_true, true_and, List.map_cons, List.map_nil]
    exact (ixF_none fun j hj => ht j hj hj).symm
theorem c72_k0 (l : List Seen) (hl : l.length ≤ maxLen) {fid : FuncId} {p : Seen → Bool} (he : enters Try.prog fid = true)
    (hp : ∀ x ∈ l, Ctr Try.prog fid [.agg ((encSeen x).map .dat)] [] (.one (.dat (.bool (p x)))) []) : Ctr Try.prog 72 [.one (.dat (.sl 2 (l.map encSeen))), .one (.fn fid [])] [] (.one (.dat (.int .i64 (ixF p l)))) [] := by
  refine Ctr.body mixed Try.func72 rfl (by kernel_rfl) (Nat.le_of_ble_eq_true rfl) (by simp [AV.Clean, AV.Clean1, Leaf.Clean, D.flat]) (by simp [AObj.Sep]) (by simp [AV.Low, AV.Low1, Leaf.Low]) ?_
  simp (maxSteps := 2000000) only [go_sem, ↓reduceIte, reduceCtorEq, Nat.reduceAdd, Nat.reduceMul, Nat.reduceSub, Nat.reduceLT, Nat.reduceLeDiff, Nat.reduceEqDiff, Int.reduceToNat, Int.reduceLT, Int.reduceLE, Int.reduceNeg]
  refine LoopK_intro (fun n s => ∃ i : Nat, i ≤ l.length ∧ n = l.length - i ∧ (∀ j (hj : j < l.length), j < i → p l[j] = false) ∧ s = mkSt [(8, .one (.dat (.int .i64 i))), (7, .one (.dat (.int .i64 l.length))), (1, .one (.fn fid [])), (0, .one (.dat (.sl 2 (l.map encSeen))))] []) l.length _
    (Ent.weak (ids := []) (by simp) rfl (by simp) (by simp [objsLe, envLe, find, St.obj, AObj.renF, AV.renF, AV.renF1, Leaf.renF, LowAll, AV.Low, AV.Low1, Leaf.Low, AObj.Low, Ptr.renF, Ptr.Low]) (by simp [objsLe, envLe, find, St.obj, AObj.renF, AV.renF, AV.renF1, Leaf.renF, LowAll, AV.Low, AV.Low1, Leaf.Low, AObj.Low, Ptr.renF, Ptr.Low]) (by simp [objsLe, envLe, find, St.obj, AObj.renF, AV.renF, AV.renF1, Leaf.renF, LowAll, AV.Low, AV.Low1, Leaf.Low, AObj.Low, Ptr.renF, Ptr.Low])) ⟨0, by omega, by omega, by simp, rfl⟩ ?_
  rintro n s ⟨i, hi, rfl, ht, rfl⟩ K hK
  simp (maxSteps := 2000000) only [go_sem, ↓reduceIte, reduceCtorEq, Nat.reduceAdd, Nat.reduceMul, Nat.reduceSub, Nat.reduceLT, Nat.reduceLeDiff, Nat.reduceEqDiff, Int.reduceToNat, Int.reduceLT, Int.reduceLE, Int.reduceNeg]
  refine ⟨fun h => ?_, fun h => ?_⟩
  · have hlt : i < l.length := by simpa using h
    have hw := wrap_succ hlt hl
    refine ⟨⟨by omega, by omega⟩, hlt, ?_⟩
    have hpx := hp l[i] (List.getElem_mem hlt)
    simp only [getD_map hlt, encSeen, List.map_cons, List.map_nil, List.take_succ_cons, List.take_zero, List.getD_cons_zero] at hpx ⊢
    refine CallK_pure he hpx rfl ?_
    simp (maxSteps := 2000000) only [go_sem, ↓reduceIte, reduceCtorEq, Nat.reduceAdd, Nat.reduceMul, Nat.reduceSub, Nat.reduceLT, Nat.reduceLeDiff, Nat.reduceEqDiff, Int.reduceToNat, Int.reduceLT, Int.reduceLE, Int.reduceNeg, hw]
    refine ⟨fun h => ?_, fun h => ?_⟩
    · apply hK
      simp (maxSteps := 2000000) only [go_sem, ↓reduceIte, reduceCtorEq, Nat.reduceAdd, Nat.reduceMul, Nat.reduceSub, Nat.reduceLT, Nat.reduceLeDiff, Nat.reduceEqDiff, Int.reduceToNat, Int.reduceLT, Int.reduceLE, Int.reduceNeg]
      refine Fin.intro Try.results72 [] (by simp (maxSteps := 2000000) only [go_sem, ↓reduceIte, reduceCtorEq, Nat.reduceAdd, Nat.reduceMul, Nat.reduceSub, Nat.reduceLT, Nat.reduceLeDiff, Nat.reduceEqDiff, Int.reduceToNat, Int.reduceLT, Int.reduceLE, Int.reduceNeg, resA]; rfl) ?_ ?_ (by simp) rfl (by simp) ?_ <;> try trivial
      simp only [packA, AV.renF, AV.renF1, Leaf.renF, AV.one.injEq, Leaf.dat.injEq, D.bool.injEq, D.int.injEq, D.str.injEq, AV.agg.injEq, AV.tup.injEq, List.cons.injEq, and_true, true_and, List.map_cons, List.map_nil]
      exact (ixF_some hlt h ht).symm
    · apply hK
      refine ⟨l.length - (i + 1), _, by omega, Ent.weak (ids := []) (by simp) rfl (by simp) (by simp [objsLe, envLe, find, St.obj, AObj.renF, AV.renF, AV.renF1, Leaf.renF, LowAll, AV.Low, AV.Low1, Leaf.Low, AObj.Low, Ptr.renF, Ptr.Low]) (by simp [objsLe, envLe, find, St.obj, AObj.renF, AV.renF, AV.renF1, Leaf.renF, LowAll, AV.Low, AV.Low1, Leaf.Low, AObj.Low, Ptr.renF, Ptr.Low]) (by simp [objsLe, envLe, find, St.obj, AObj.renF, AV.renF, AV.renF1, Leaf.renF, LowAll, AV.Low, AV.Low1, Leaf.Low, AObj.Low, Ptr.renF, Ptr.Low]), i + 1, by omega, rfl, fun j hj hji => ?_, rfl⟩
      by_cases e : j = i
      · subst e; exact h
      · exact ht j hj (by omega)
  · have hge : i = l.length := by simp at h; omega
    subst hge
    apply hK
    simp (maxSteps := 2000000) only [go_sem, ↓reduceIte, reduceCtorEq, Nat.reduceAdd, Nat.reduceMul, Nat.reduceSub, Nat.reduceLT, Nat.reduceLeDiff, Nat.reduceEqDiff, Int.reduceToNat, Int.reduceLT, Int.reduceLE, Int.reduceNeg]
    refine Fin.intro Try.results72 [] (by simp (maxSteps := 2000000) only [go_sem, ↓reduceIte, reduceCtorEq, Nat.reduceAdd, Nat.reduceMul, Nat.reduceSub, Nat.reduceLT, Nat.reduceLeDiff, Nat.reduceEqDiff, Int.reduceToNat, Int.reduceLT, Int.reduceLE, Int.reduceNeg, resA]; rfl) ?_ ?_ (by simp) rfl (by simp) ?_ <;> try trivial
    simp only [packA, AV.renF, AV.renF1, Leaf.renF, AV.one.injEq, Leaf.dat.injEq, D.bool.injEq, D.int.injEq, D.str.injEq, AV.agg.injEq, AV.tup.injEq, List.cons.injEq, and_true, true_and, List.map_cons, List.map_nil]
    exact (ixF_none fun j hj => ht j hj hj).symm
theorem c72_k1 (l : List Seen) (hl : l.length ≤ maxLen) {fid : FuncId} {m : Nat} {r : List D} {p : Seen → Bool} (he : enters Try.prog fid = true)
    (hp : ∀ x ∈ l, Ctr Try.prog fid [.agg ((encSeen x).map .dat), .one (.ptr (.ro m [r] 0 0))] [] (.one (.dat (.bool (p x)))) []) : Ctr Try.prog 72 [.one (.dat (.sl 2 (l.map encSeen))), .one (.fn fid [.ro m [r] 0 0])] [] (.one (.dat (.int .i64 (ixF p l)))) [] := by
  refine Ctr.body mixed Try.func72 rfl (by kernel_rfl) (Nat.le_of_ble_eq_true rfl) (by simp [AV.Clean, AV.Clean1, Leaf.Clean, D.flat]) (by simp [AObj.Sep]) (by simp [AV.Low, AV.Low1, Leaf.Low]) ?_
  simp (maxSteps := 2000000) only [go_sem, ↓reduceIte, reduceCtorEq, Nat.reduceAdd, Nat.reduceMul, Nat.reduceSub, Nat.reduceLT, Nat.reduceLeDiff, Nat.reduceEqDiff, Int.reduceToNat, Int.reduceLT, Int.reduceLE, Int.reduceNeg]
  refine LoopK_intro (fun n s => ∃ i : Nat, i ≤ l.length ∧ n = l.length - i ∧ (∀ j (hj : j < l.length), j < i → p l[j] = false) ∧ s = mkSt [(8, .one (.dat (.int .i64 i))), (7, .one (.dat (.int .i64 l.length))), (1, .one (.fn fid [.ro m [r] 0 0])), (0, .one (.dat (.sl 2 (l.map encSeen))))] []) l.length _
    (Ent.weak (ids := []) (by simp) rfl (by simp) (by simp [objsLe, envLe, find, St.obj, AObj.renF, AV.renF, AV.renF1, Leaf.renF, LowAll, AV.Low, AV.Low1, Leaf.Low, AObj.Low, Ptr.renF, Ptr.Low]) (by simp [objsLe, envLe, find, St.obj, AObj.renF, AV.renF, AV.renF1, Leaf.renF, LowAll, AV.Low, AV.Low1, Leaf.Low, AObj.Low, Ptr.renF, Ptr.Low]) (by simp [objsLe, envLe, find, St.obj, AObj.renF, AV.renF, AV.renF1, Leaf.renF, LowAll, AV.Low, AV.Low1, Leaf.Low, AObj.Low, Ptr.renF, Ptr.Low])) ⟨0, by omega, by omega, by simp, rfl⟩ ?_
  rintro n s ⟨i, hi, rfl, ht, rfl⟩ K hK
  simp (maxSteps := 2000000) only [go_sem, ↓reduceIte, reduceCtorEq, Nat.reduceAdd, Nat.reduceMul, Nat.reduceSub, Nat.reduceLT, Nat.reduceLeDiff, Nat.reduceEqDiff, Int.reduceToNat, Int.reduceLT, Int.reduceLE, Int.reduceNeg]
  refine ⟨fun h => ?_, fun h => ?_⟩
  · have hlt : i < l.length := by simpa using h
    have hw := wrap_succ hlt hl
    refine ⟨⟨by omega, by omega⟩, hlt, ?_⟩
    have hpx := hp l[i] (List.getElem_mem hlt)
    simp only [getD_map hlt, encSeen, List.map_cons, List.map_nil, List.take_succ_cons, List.take_zero, List.getD_cons_zero] at hpx ⊢
    refine CallK_pure he hpx rfl ?_
    simp (maxSteps := 2000000) only [go_sem, ↓reduceIte, reduceCtorEq, Nat.reduceAdd, Nat.reduceMul, Nat.reduceSub, Nat.reduceLT, Nat.reduceLeDiff, Nat.reduceEqDiff, Int.reduceToNat, Int.reduceLT, Int.reduceLE, Int.reduceNeg, hw]
    refine ⟨fun h => ?_, fun h => ?_⟩
    · apply hK
      simp (maxSteps := 2000000) only [go_sem, ↓reduceIte, reduceCtorEq, Nat.reduceAdd, Nat.reduceMul, Nat.reduceSub, Nat.reduceLT, Nat.reduceLeDiff, Nat.reduceEqDiff, Int.reduceToNat, Int.reduceLT, Int.reduceLE, Int.reduceNeg]
      refine Fin.intro Try.results72 [] (by simp (maxSteps := 2000000) only [go_sem, ↓reduceIte, reduceCtorEq, Nat.reduceAdd, Nat.reduceMul, Nat.reduceSub, Nat.reduceLT, Nat.reduceLeDiff, Nat.reduceEqDiff, Int.reduceToNat, Int.reduceLT, Int.reduceLE, Int.reduceNeg, resA]; rfl) ?_ ?_ (by simp) rfl (by simp) ?_ <;> try trivial
      simp only [packA, AV.renF, AV.renF1, Leaf.renF, AV.one.injEq, Leaf.dat.injEq, D.bool.injEq, D.int.injEq, D.str.injEq, AV.agg.injEq, AV.tup.injEq, List.cons.injEq, and_true, true_and, List.map_cons, List.map_nil]
      exact (ixF_some hlt h ht).symm
    · apply hK
      refine ⟨l.length - (i + 1), _, by omega, Ent.weak (ids := []) (by simp) rfl (by simp) (by simp [objsLe, envLe, find, St.obj, AObj.renF, AV.renF, AV.renF1, Leaf.renF, LowAll, AV.Low, AV.Low1, Leaf.Low, AObj.Low, Ptr.renF, Ptr.Low]) (by simp [objsLe, envLe, find, St.obj, AObj.renF, AV.renF, AV.renF1, Leaf.renF, LowAll, AV.Low, AV.Low1, Leaf.Low, AObj.Low, Ptr.renF, Ptr.Low]) (by simp [objsLe, envLe, find, St.obj, AObj.renF, AV.renF, AV.renF1, Leaf.renF, LowAll, AV.Low, AV.Low1, Leaf.Low, AObj.Low, Ptr.renF, Ptr.Low]), i + 1, by omega, rfl, fun j hj hji => ?_, rfl⟩
      by_cases e : j = i
      · subst e; exact h
      · exact ht j hj (by omega)
  · have hge : i = l.length := by simp at h; omega
    subst hge
    apply hK
    simp (maxSteps := 2000000) only [go_sem, ↓reduceIte, reduceCtorEq, Nat.reduceAdd, Nat.reduceMul, Nat.reduceSub, Nat.reduceLT, Nat.reduceLeDiff, Nat.reduceEqDiff, Int.reduceToNat, Int.reduceLT, Int.reduceLE, Int.reduceNeg]
    refine Fin.intro Try.results72 [] (by simp (maxSteps := 2000000) only [go_sem, ↓reduceIte, reduceCtorEq, Nat.reduceAdd, Nat.reduceMul, Nat.reduceSub, Nat.reduceLT, Nat.reduceLeDiff, Nat.reduceEqDiff, Int.reduceToNat, Int.reduceLT, Int.reduceLE, Int.reduceNeg, resA]; rfl) ?_ ?_ (by simp) rfl (by simp) ?_ <;> try trivial
    simp only [packA, AV.renF, AV.renF1, Leaf.renF, AV.one.injEq, Leaf.dat.injEq, D.bool.injEq, D.int.injEq, D.str.injEq, AV.agg.injEq, AV.tup.injEq, List.cons.injEq, and_true, true_and, List.map_cons, List.map_nil]
    exact (ixF_none fun j hj => ht j hj hj).symm
theorem c72_k2 (l : List Seen) (hl : l.length ≤ maxLen) {fid : FuncId} {m m2 : Nat} {r r2 : List D} {p : Seen → Bool} (he : enters Try.prog fid = true)
    (hp : ∀ x ∈ l, Ctr Try.prog fid [.agg ((encSeen x).map .dat), .one (.ptr (.ro m [r] 0 0)), .one (.ptr (.ro m2 [r2] 0 0))] [] (.one (.dat (.bool (p x)))) []) : Ctr Try.prog 72 [.one (.dat (.sl 2 (l.map encSeen))), .one (.fn fid [.ro m [r] 0 0, .ro m2 [r2] 0 0])] [] (.one (.dat (.int .i64 (ixF p l)))) [] := by
  refine Ctr.body mixed Try.func72 rfl (by kernel_rfl) (Nat.le_of_ble_eq_true rfl) (by simp [AV.Clean, AV.Clean1, Leaf.Clean, D.flat]) (by simp [AObj.Sep]) (by simp [AV.Low, AV.Low1, Leaf.Low]) ?_
  simp (maxSteps := 2000000) only [go_sem, ↓reduceIte, reduceCtorEq, Nat.reduceAdd, Nat.reduceMul, Nat.reduceSub, Nat.reduceLT, Nat.reduceLeDiff, Nat.reduceEqDiff, Int.reduceToNat, Int.reduceLT, Int.reduceLE, Int.reduceNeg]
  refine LoopK_intro (fun n s => ∃ i : Nat, i ≤ l.length ∧ n = l.length - i ∧ (∀ j (hj : j < l.length), j < i → p l[j] = false) ∧ s = mkSt [(8, .one (.dat (.int .i64 i))), (7, .one (.dat (.int .i64 l.length))), (1, .one (.fn fid [.ro m [r] 0 0, .ro m2 [r2] 0 0])), (0, .one (.dat (.sl 2 (l.map encSeen))))] []) l.length _
    (Ent.weak (ids := []) (by simp) rfl (by simp) (by simp [objsLe, envLe, find, St.obj, AObj.renF, AV.renF, AV.renF1, Leaf.renF, LowAll, AV.Low, AV.Low1, Leaf.Low, AObj.Low, Ptr.renF, Ptr.Low]) (by simp [objsLe, envLe, find, St.obj, AObj.renF, AV.renF, AV.renF1, Leaf.renF, LowAll, AV.Low, AV.Low1, Leaf.Low, AObj.Low, Ptr.renF, Ptr.Low]) (by simp [objsLe, envLe, find, St.obj, AObj.renF, AV.renF, AV.renF1, Leaf.renF, LowAll, AV.Low, AV.Low1, Leaf.Low, AObj.Low, Ptr.renF, Ptr.Low])) ⟨0, by omega, by omega, by simp, rfl⟩ ?_
  rintro n s ⟨i, hi, rfl, ht, rfl⟩ K hK
  simp (maxSteps := 2000000) only [go_sem, ↓reduceIte, reduceCtorEq, Nat.reduceAdd, Nat.reduceMul, Nat.reduceSub, Nat.reduceLT, Nat.reduceLeDiff, Nat.reduceEqDiff, Int.reduceToNat, Int.reduceLT, Int.reduceLE, Int.reduceNeg]
  refine ⟨fun h => ?_, fun h => ?_⟩
  · have hlt : i < l.length := by simpa using h
    have hw := wrap_succ hlt hl
    refine ⟨⟨by omega, by omega⟩, hlt, ?_⟩
    have hpx := hp l[i] (List.getElem_mem hlt)
    simp only [getD_map hlt, encSeen, List.map_cons, List.map_nil, List.take_succ_cons, List.take_zero, List.getD_cons_zero] at hpx ⊢
    refine CallK_pure he hpx rfl ?_
    simp (maxSteps := 2000000) only [go_sem, ↓reduceIte, reduceCtorEq, Nat.reduceAdd, Nat.reduceMul, Nat.reduceSub, Nat.reduceLT, Nat.reduceLeDiff, Nat.reduceEqDiff, Int.reduceToNat, Int.reduceLT, Int.reduceLE, Int.reduceNeg, hw]
    refine ⟨fun h => ?_, fun h => ?_⟩
    · apply hK
      simp (maxSteps := 2000000) only [go_sem, ↓reduceIte, reduceCtorEq, Nat.reduceAdd, Nat.reduceMul, Nat.reduceSub, Nat.reduceLT, Nat.reduceLeDiff, Nat.reduceEqDiff, Int.reduceToNat, Int.reduceLT, Int.reduceLE, Int.reduceNeg]
      refine Fin.intro Try.results72 [] (by simp (maxSteps := 2000000) only [go_sem, ↓reduceIte, reduceCtorEq, Nat.reduceAdd, Nat.reduceMul, Nat.reduceSub, Nat.reduceLT, Nat.reduceLeDiff, Nat.reduceEqDiff, Int.reduceToNat, Int.reduceLT, Int.reduceLE, Int.reduceNeg, resA]; rfl) ?_ ?_ (by simp) rfl (by simp) ?_ <;> try trivial
      simp only [packA, AV.renF, AV.renF1, Leaf.renF, AV.one.injEq, Leaf.dat.injEq, D.bool.injEq, D.int.injEq, D.str.injEq, AV.agg.injEq, AV.tup.injEq, List.cons.injEq, and_true, true_and, List.map_cons, List.map_nil]
      exact (ixF_some hlt h ht).symm
    · apply hK
      refine ⟨l.length - (i + 1), _, by omega, Ent.weak (ids := []) (by simp) rfl (by simp) (by simp [objsLe, envLe, find, St.obj, AObj.renF, AV.renF, AV.renF1, Leaf.renF, LowAll, AV.Low, AV.Low1, Leaf.Low, AObj.Low, Ptr.renF, Ptr.Low]) (by simp [objsLe, envLe, find, St.obj, AObj.renF, AV.renF, AV.renF1, Leaf.renF, LowAll, AV.Low, AV.Low1, Leaf.Low, AObj.Low, Ptr.renF, Ptr.Low]) (by simp [objsLe, envLe, find, St.obj, AObj.renF, AV.renF, AV.renF1, Leaf.renF, LowAll, AV.Low, AV.Low1, Leaf.Low, AObj.Low, Ptr.renF, Ptr.Low]), i + 1, by omega, rfl, fun j hj hji => ?_, rfl⟩
      by_cases e : j = i
      · subst e; exact h
      · exact ht j hj (by omega)
  · have hge : i = l.length := by simp at h; omega
    subst hge
    apply hK
    simp (maxSteps := 2000000) only [go_sem, ↓reduceIte, reduceCtorEq, Nat.reduceAdd, Nat.reduceMul, Nat.reduceSub, Nat.reduceLT, Nat.reduceLeDiff, Nat.reduceEqDiff, Int.reduceToNat, Int.reduceLT, Int.reduceLE, Int.reduceNeg]
    refine Fin.intro Try.results72 [] (by simp (maxSteps := 2000000) only [go_sem, ↓reduceIte, reduceCtorEq, Nat.reduceAdd, Nat.reduceMul, Nat.reduceSub, Nat.reduceLT, Nat.reduceLeDiff, Nat.reduceEqDiff, Int.reduceToNat, Int.reduceLT, Int.reduceLE, Int.reduceNeg, resA]; rfl) ?_ ?_ (by simp) rfl (by simp) ?_ <;> try trivial
    simp only [packA, AV.renF, AV.renF1, Leaf.renF, AV.one.injEq, Leaf.dat.injEq, D.bool.injEq, D.int.injEq, D.str.injEq, AV.agg.injEq, AV.tup.injEq, List.cons.injEq, and_true, true_and, List.map_cons, List.map_nil]
    exact (ixF_none fun j hj => ht j hj hj).symm
theorem c86_k0 (l : List Write) (hl : l.length ≤ maxLen) {fid : FuncId} {p : Write → Bool} (he : enters Try.prog fid = true)
    (hp : ∀ x ∈ l, Ctr Try.prog fid [.agg ((encWrite x).map .dat)] [] (.one (.dat (.bool (p x)))) []) : Ctr Try.prog 86 [.one (.dat (.sl 3 (l.map encWrite))), .one (.fn fid [])] [] (.one (.dat (.int .i64 (ixF p l)))) [] := by
  refine Ctr.body mixed Try.func86 rfl (by kernel_rfl) (Nat.le_of_ble_eq_true rfl) (by simp [AV.Clean, AV.Clean1, Leaf.Clean, D.flat]) (by simp [AObj.Sep]) (by simp [AV.Low, AV.Low1, Leaf.Low]) ?_
  simp (maxSteps := 2000000) only [go_sem, ↓reduceIte, reduceCtorEq, Nat.reduceAdd, Nat.reduceMul, Nat.reduceSub, Nat.reduceLT, Nat.reduceLeDiff, Nat.reduceEqDiff, Int.reduceToNat, Int.reduceLT, Int.reduceLE, Int.reduceNeg]
  refine LoopK_intro (fun n s => ∃ i : Nat, i ≤ l.length ∧ n = l.length - i ∧ (∀ j (hj : j < l.length), j < i → p l[j] = false) ∧ s = mkSt [(8, .one (.dat (.int .i64 i))), (7, .one (.dat (.int .i64 l.length))), (1, .one (.fn fid [])), (0, .one (.dat (.sl 3 (l.map encWrite))))] []) l.length _
    (Ent.weak (ids := []) (by simp) rfl (by simp) (by simp [objsLe, envLe, find, St.obj, AObj.renF, AV.renF, AV.renF1, Leaf.renF, LowAll, AV.Low, AV.Low1, Leaf.Low, AObj.Low, Ptr.renF, Ptr.Low]) (by simp [objsLe, envLe, find, St.obj, AObj.renF, AV.renF, AV.renF1, Leaf.renF, LowAll, AV.Low, AV.Low1, Leaf.Low, AObj.Low, Ptr.renF, Ptr.Low]) (by simp [objsLe, envLe, find, St.obj, AObj.renF, AV.renF, AV.renF1, Leaf.renF, LowAll, AV.Low, AV.Low1, Leaf.Low, AObj.Low, Ptr.renF, Ptr.Low])) ⟨0, by omega, by omega, by simp, rfl⟩ ?_
  rintro n s ⟨i, hi, rfl, ht, rfl⟩ K hK
  simp (maxSteps := 2000000) only [go_sem, ↓reduceIte, reduceCtorEq, Nat.reduceAdd, Nat.reduceMul, Nat.reduceSub, Nat.reduceLT, Nat.reduceLeDiff, Nat.reduceEqDiff, Int.reduceToNat, Int.reduceLT, Int.reduceLE, Int.reduceNeg]
  refine ⟨fun h => ?_, fun h => ?_⟩
  · have hlt : i < l.length := by simpa using h
    have hw := wrap_succ hlt hl
    refine ⟨⟨by omega, by omega⟩, hlt, ?_⟩
    have hpx := hp l[i] (List.getElem_mem hlt)
    simp only [getD_map hlt, encWrite, List.map_cons, List.map_nil, List.take_succ_cons, List.take_zero, List.getD_cons_zero] at hpx ⊢
    refine CallK_pure he hpx rfl ?_
    simp (maxSteps := 2000000) only [go_sem, ↓reduceIte, reduceCtorEq, Nat.reduceAdd, Nat.reduceMul, Nat.reduceSub, Nat.reduceLT, Nat.reduceLeDiff, Nat.reduceEqDiff, Int.reduceToNat, Int.reduceLT, Int.reduceLE, Int.reduceNeg, hw]
    refine ⟨fun h => ?_, fun h => ?_⟩
    · apply hK
      simp (maxSteps := 2000000) only [go_sem, ↓reduceIte, reduceCtorEq, Nat.reduceAdd, Nat.reduceMul, Nat.reduceSub, Nat.reduceLT, Nat.reduceLeDiff, Nat.reduceEqDiff, Int.reduceToNat, Int.reduceLT, Int.reduceLE, Int.reduceNeg]
      refine Fin.intro Try.results86 [] (by simp (maxSteps := 2000000) only [go_sem, ↓reduceIte, reduceCtorEq, Nat.reduceAdd, Nat.reduceMul, Nat.reduceSub, Nat.reduceLT, Nat.reduceLeDiff, Nat.reduceEqDiff, Int.reduceToNat, Int.reduceLT, Int.reduceLE, Int.reduceNeg, resA]; rfl) ?_ ?_ (by simp) rfl (by simp) ?_ <;> try trivial
      simp only [packA, AV.renF, AV.renF1, Leaf.renF, AV.one.injEq, Leaf.dat.injEq, D.bool.injEq, D.int.injEq, D.str.injEq, AV.agg.injEq, AV.tup.injEq, List.cons.injEq, and_true, true_and, List.map_cons, List.map_nil]
      exact (ixF_some hlt h ht).symm
    · apply hK
      refine ⟨l.length - (i + 1), _, by omega, Ent.weak (ids := []) (by simp) rfl (by simp) (by simp [objsLe, envLe, find, St.obj, AObj.renF, AV.renF, AV.renF1, Leaf.renF, LowAll, AV.Low, AV.Low1, Leaf.Low, AObj.Low, Ptr.renF, Ptr.Low]) (by simp [objsLe, envLe, find, St.obj, AObj.renF, AV.renF, AV.renF1, Leaf.renF, LowAll, AV.Low, AV.Low1, Leaf.Low, AObj.Low, Ptr.renF, Ptr.Low]) (by simp [objsLe, envLe, find, St.obj, AObj.renF, AV.renF, AV.renF1, Leaf.renF, LowAll, AV.Low, AV.Low1, Leaf.Low, AObj.Low, Ptr.renF, Ptr.Low]), i + 1, by omega, rfl, fun j hj hji => ?_, rfl⟩
      by_cases e : j = i
      · subst e; exact h
      · exact ht j hj (by omega)
  · have hge : i = l.length := by simp at h; omega
    subst hge
    apply hK
    simp (maxSteps := 2000000) only [go_sem, ↓reduceIte, reduceCtorEq, Nat.reduceAdd, Nat.reduceMul, Nat.reduceSub, Nat.reduceLT, Nat.reduceLeDiff, Nat.reduceEqDiff, Int.reduceToNat, Int.reduceLT, Int.reduceLE, Int.reduceNeg]
    refine Fin.intro Try.results86 [] (by simp (maxSteps := 2000000) only [go_sem, ↓reduceIte, reduceCtorEq, Nat.reduceAdd, Nat.reduceMul, Nat.reduceSub, Nat.reduceLT, Nat.reduceLeDiff, Nat.reduceEqDiff, Int.reduceToNat, Int.reduceLT, Int.reduceLE, Int.reduceNeg, resA]; rfl) ?_ ?_ (by simp) rfl (by simp) ?_ <;> try trivial
    simp only [packA, AV.renF, AV.renF1, Leaf.renF, AV.one.injEq, Leaf.dat.injEq, D.bool.injEq, D.int.injEq, D.str.injEq, AV.agg.injEq, AV.tup.injEq, List.cons.injEq, and_true, true_and, List.map_cons, List.map_nil]
    exact (ixF_none fun j hj => ht j hj hj).symm
theorem c86_k1 (l : List Write) (hl : l.length ≤ maxLen) {fid : FuncId} {m : Nat} {r : List D} {p : Write → Bool} (he : enters Try.prog fid = true)
    (hp : ∀ x ∈ l, Ctr Try.prog fid [.agg ((encWrite x).map .dat), .one (.ptr (.ro m [r] 0 0))] [] (.one (.dat (.bool (p x)))) []) : Ctr Try.prog 86 [.one (.dat (.sl 3 (l.map encWrite))), .one (.fn fid [.ro m [r] 0 0])] [] (.one (.dat (.int .i64 (ixF p l)))) [] := by
  refine Ctr.body mixed Try.func86 rfl (by kernel_rfl) (Nat.le_of_ble_eq_true rfl) (by simp [AV.Clean, AV.Clean1, Leaf.Clean, D.flat]) (by simp [AObj.Sep]) (by simp [AV.Low, AV.Low1, Leaf.Low]) ?_
  simp (maxSteps := 2000000) only [go_sem, ↓reduceIte, reduceCtorEq, Nat.reduceAdd, Nat.reduceMul, Nat.reduceSub, Nat.reduceLT, Nat.reduceLeDiff, Nat.reduceEqDiff, Int.reduceToNat, Int.reduceLT, Int.reduceLE, Int.reduceNeg]
  refine LoopK_intro (fun n s => ∃ i : Nat, i ≤ l.length ∧ n = l.length - i ∧ (∀ j (hj : j < l.length), j < i → p l[j] = false) ∧ s = mkSt [(8, .one (.dat (.int .i64 i))), (7, .one (.dat (.int .i64 l.length))), (1, .one (.fn fid [.ro m [r] 0 0])), (0, .one (.dat (.sl 3 (l.map encWrite))))] []) l.length _
    (Ent.weak (ids := []) (by simp) rfl (by simp) (by simp [objsLe, envLe, find, St.obj, AObj.renF, AV.renF, AV.renF1, Leaf.renF, LowAll, AV.Low, AV.Low1, Leaf.Low, AObj.Low, Ptr.renF, Ptr.Low]) (by simp [objsLe, envLe, find, St.obj, AObj.renF, AV.renF, AV.renF1, Leaf.renF, LowAll, AV.Low, AV.Low1, Leaf.Low, AObj.Low, Ptr.renF, Ptr.Low]) (by simp [objsLe, envLe, find, St.obj, AObj.renF, AV.renF, AV.renF1, Leaf.renF, LowAll, AV.Low, AV.Low1, Leaf.Low, AObj.Low, Ptr.renF, Ptr.Low])) ⟨0, by omega, by omega, by simp, rfl⟩ ?_
  rintro n s ⟨i, hi, rfl, ht, rfl⟩ K hK
  simp (maxSteps := 2000000) only [go_sem, ↓reduceIte, reduceCtorEq, Nat.reduceAdd, Nat.reduceMul, Nat.reduceSub, Nat.reduceLT, Nat.reduceLeDiff, Nat.reduceEqDiff, Int.reduceToNat, Int.reduceLT, Int.reduceLE, Int.reduceNeg]
  refine ⟨fun h => ?_, fun h => ?_⟩
  · have hlt : i < l.length := by simpa using h
    have hw := wrap_succ hlt hl
    refine ⟨⟨by omega, by omega⟩, hlt, ?_⟩
    have hpx := hp l[i] (List.getElem_mem hlt)
    simp only [getD_map hlt, encWrite, List.map_cons, List.map_nil, List.take_succ_cons, List.take_zero, List.getD_cons_zero] at hpx ⊢
    refine CallK_pure he hpx rfl ?_
    simp (maxSteps := 2000000) only [go_sem, ↓reduceIte, reduceCtorEq, Nat.reduceAdd, Nat.reduceMul, Nat.reduceSub, Nat.reduceLT, Nat.reduceLeDiff, Nat.reduceEqDiff, Int.reduceToNat, Int.reduceLT, Int.reduceLE, Int.reduceNeg, hw]
    refine ⟨fun h => ?_, fun h => ?_⟩
    · apply hK
      simp (maxSteps := 2000000) only [go_sem, ↓reduceIte, reduceCtorEq, Nat.reduceAdd, Nat.reduceMul, Nat.reduceSub, Nat.reduceLT, Nat.reduceLeDiff, Nat.reduceEqDiff, Int.reduceToNat, Int.reduceLT, Int.reduceLE, Int.reduceNeg]
      refine Fin.intro Try.results86 [] (by simp (maxSteps := 2000000) only [go_sem, ↓reduceIte, reduceCtorEq, Nat.reduceAdd, Nat.reduceMul, Nat.reduceSub, Nat.reduceLT, Nat.reduceLeDiff, Nat.reduceEqDiff, Int.reduceToNat, Int.reduceLT, Int.reduceLE, Int.reduceNeg, resA]; rfl) ?_ ?_ (by simp) rfl (by simp) ?_ <;> try trivial
      simp only [packA, AV.renF, AV.renF1, Leaf.renF, AV.one.injEq, Leaf.dat.injEq, D.bool.injEq, D.int.injEq, D.str.injEq, AV.agg.injEq, AV.tup.injEq, List.cons.injEq, and_true, true_and, List.map_cons, List.map_nil]
      exact (ixF_some hlt h ht).symm
    · apply hK
      refine ⟨l.length - (i + 1), _, by omega, Ent.weak (ids := []) (by simp) rfl (by simp) (by simp [objsLe, envLe, find, St.obj, AObj.renF, AV.renF, AV.renF1, Leaf.renF, LowAll, AV.Low, AV.Low1, Leaf.Low, AObj.Low, Ptr.renF, Ptr.Low]) (by simp [objsLe, envLe, find, St.obj, AObj.renF, AV.renF, AV.renF1, Leaf.renF, LowAll, AV.Low, AV.Low1, Leaf.Low, AObj.Low, Ptr.renF, Ptr.Low]) (by simp [objsLe, envLe, find, St.obj, AObj.renF, AV.renF, AV.renF1, Leaf.renF, LowAll, AV.Low, AV.Low1, Leaf.Low, AObj.Low, Ptr.renF, Ptr.Low]), i + 1, by omega, rfl, fun j hj hji => ?_, rfl⟩
      by_cases e : j = i
      · subst e; exact h
      · exact ht j hj (by omega)
  · have hge : i = l.length := by simp at h; omega
    subst hge
    apply hK
    simp (maxSteps := 2000000) only [go_sem, ↓reduceIte, reduceCtorEq, Nat.reduceAdd, Nat.reduceMul, Nat.reduceSub, Nat.reduceLT, Nat.reduceLeDiff, Nat.reduceEqDiff, Int.reduceToNat, Int.reduceLT, Int.reduceLE, Int.reduceNeg]
    refine Fin.intro Try.results86 [] (by simp (maxSteps := 2000000) only [go_sem, ↓reduceIte, reduceCtorEq, Nat.reduceAdd, Nat.reduceMul, Nat.reduceSub, Nat.reduceLT, Nat.reduceLeDiff, Nat.reduceEqDiff, Int.reduceToNat, Int.reduceLT, Int.reduceLE, Int.reduceNeg, resA]; rfl) ?_ ?_ (by simp) rfl (by simp) ?_ <;> try trivial
    simp only [packA, AV.renF, AV.renF1, Leaf.renF, AV.one.injEq, Leaf.dat.injEq, D.bool.injEq, D.int.injEq, D.str.injEq, AV.agg.injEq, AV.tup.injEq, List.cons.injEq, and_true, true_and, List.map_cons, List.map_nil]
    exact (ixF_none fun j hj => ht j hj hj).symm
theorem c86_k2 (l : List Write) (hl : l.length ≤ maxLen) {fid : FuncId} {m m2 : Nat} {r r2 : List D} {p : Write → Bool} (he : enters Try.prog fid = true)
    (hp : ∀ x ∈ l, Ctr Try.prog fid [.agg ((encWrite x).map .dat), .one (.ptr (.ro m [r] 0 0)), .one (.ptr (.ro m2 [r2] 0 0))] [] (.one (.dat (.bool (p x)))) []) : Ctr Try.prog 86 [.one (.dat (.sl 3 (l.map encWrite))), .one (.fn fid [.ro m [r] 0 0, .ro m2 [r2] 0 0])] [] (.one (.dat (.int .i64 (ixF p l)))) [] := by
  refine Ctr.body mixed Try.func86 rfl (by kernel_rfl) (Nat.le_of_ble_eq_true rfl) (by simp [AV.Clean, AV.Clean1, Leaf.Clean, D.flat]) (by simp [AObj.Sep]) (by simp [AV.Low, AV.Low1, Leaf.Low]) ?_
  simp (maxSteps := 2000000) only [go_sem, ↓reduceIte, reduceCtorEq, Nat.reduceAdd, Nat.reduceMul, Nat.reduceSub, Nat.reduceLT, Nat.reduceLeDiff, Nat.reduceEqDiff, Int.reduceToNat, Int.reduceLT, Int.reduceLE, Int.reduceNeg]
  refine LoopK_intro (fun n s => ∃ i : Nat, i ≤ l.length ∧ n = l.length - i ∧ (∀ j (hj : j < l.length), j < i → p l[j] = false) ∧ s = mkSt [(8, .one (.dat (.int .i64 i))), (7, .one (.dat (.int .i64 l.length))), (1, .one (.fn fid [.ro m [r] 0 0, .ro m2 [r2] 0 0])), (0, .one (.dat (.sl 3 (l.map encWrite))))] []) l.length _
    (Ent.weak (ids := []) (by simp) rfl (by simp) (by simp [objsLe, envLe, find, St.obj, AObj.renF, AV.renF, AV.renF1, Leaf.renF, LowAll, AV.Low, AV.Low1, Leaf.Low, AObj.Low, Ptr.renF, Ptr.Low]) (by simp [objsLe, envLe, find, St.obj, AObj.renF, AV.renF, AV.renF1, Leaf.renF, LowAll, AV.Low, AV.Low1, Leaf.Low, AObj.Low, Ptr.renF, Ptr.Low]) (by simp [objsLe, envLe, find, St.obj, AObj.renF, AV.renF, AV.renF1, Leaf.renF, LowAll, AV.Low, AV.Low1, Leaf.Low, AObj.Low, Ptr.renF, Ptr.Low])) ⟨0, by omega, by omega, by simp, rfl⟩ ?_
  rintro n s ⟨i, hi, rfl, ht, rfl⟩ K hK
  simp (maxSteps := 2000000) only [go_sem, ↓reduceIte, reduceCtorEq, Nat.reduceAdd, Nat.reduceMul, Nat.reduceSub, Nat.reduceLT, Nat.reduceLeDiff, Nat.reduceEqDiff, Int.reduceToNat, Int.reduceLT, Int.reduceLE, Int.reduceNeg]
  refine ⟨fun h => ?_, fun h => ?_⟩
  · have hlt : i < l.length := by simpa using h
    have hw := wrap_succ hlt hl
    refine ⟨⟨by omega, by omega⟩, hlt, ?_⟩
    have hpx := hp l[i] (List.getElem_mem hlt)
    simp only [getD_map hlt, encWrite, List.map_cons, List.map_nil, List.take_succ_cons, List.take_zero, List.getD_cons_zero] at hpx ⊢
    refine CallK_pure he hpx rfl ?_
    simp (maxSteps := 2000000) only [go_sem, ↓reduceIte, reduceCtorEq, Nat.reduceAdd, Nat.reduceMul, Nat.reduceSub, Nat.reduceLT, Nat.reduceLeDiff, Nat.reduceEqDiff, Int.reduceToNat, Int.reduceLT, Int.reduceLE, Int.reduceNeg, hw]
    refine ⟨fun h => ?_, fun h => ?_⟩
    · apply hK
      simp (maxSteps := 2000000) only [go_sem, ↓reduceIte, reduceCtorEq, Nat.reduceAdd, Nat.reduceMul, Nat.reduceSub, Nat.reduceLT, Nat.reduceLeDiff, Nat.reduceEqDiff, Int.reduceToNat, Int.reduceLT, Int.reduceLE, Int.reduceNeg]
      refine Fin.intro Try.results86 [] (by simp (maxSteps := 2000000) only [go_sem, ↓reduceIte, reduceCtorEq, Nat.reduceAdd, Nat.reduceMul, Nat.reduceSub, Nat.reduceLT, Nat.reduceLeDiff, Nat.reduceEqDiff, Int.reduceToNat, Int.reduceLT, Int.reduceLE, Int.reduceNeg, resA]; rfl) ?_ ?_ (by simp) rfl (by simp) ?_ <;> try trivial
      simp only [packA, AV.renF, AV.renF1, Leaf.renF, AV.one.injEq, Leaf.dat.injEq, D.bool.injEq, D.int.injEq, D.str.injEq, AV.agg.injEq, AV.tup.injEq, List.cons.injEq, and_true, true_and, List.map_cons, List.map_nil]
      exact (ixF_some hlt h ht).symm
    · apply hK
      refine ⟨l.length - (i + 1), _, by omega, Ent.weak (ids := []) (by simp) rfl (by simp) (by simp [objsLe, envLe, find, St.obj, AObj.renF, AV.renF, AV.renF1, Leaf.renF, LowAll, AV.Low, AV.Low1, Leaf.Low, AObj.Low, Ptr.renF, Ptr.Low]) (by simp [objsLe, envLe, find, St.obj, AObj.renF, AV.renF, AV.renF1, Leaf.renF, LowAll, AV.Low, AV.Low1, Leaf.Low, AObj.Low, Ptr.renF, Ptr.Low]) (by simp [objsLe, envLe, find, St.obj, AObj.renF, AV.renF, AV.renF1, Leaf.renF, LowAll, AV.Low, AV.Low1, Leaf.Low, AObj.Low, Ptr.renF, Ptr.Low]), i + 1, by omega, rfl, fun j hj hji => ?_, rfl⟩
      by_cases e : j = i
      · subst e; exact h
      · exact ht j hj (by omega)
  · have hge : i = l.length := by simp at h; omega
    subst hge
    apply hK
    simp (maxSteps := 2000000) only [go_sem, ↓reduceIte, reduceCtorEq, Nat.reduceAdd, Nat.reduceMul, Nat.reduceSub, Nat.reduceLT, Nat.reduceLeDiff, Nat.reduceEqDiff, Int.reduceToNat, Int.reduceLT, Int.reduceLE, Int.reduceNeg]
    refine Fin.intro Try.results86 [] (by simp (maxSteps := 2000000) only [go_sem, ↓reduceIte, reduceCtorEq, Nat.reduceAdd, Nat.reduceMul, Nat.reduceSub, Nat.reduceLT, Nat.reduceLeDiff, Nat.reduceEqDiff, Int.reduceToNat, Int.reduceLT, Int.reduceLE, Int.reduceNeg, resA]; rfl) ?_ ?_ (by simp) rfl (by simp) ?_ <;> try trivial
    simp only [packA, AV.renF, AV.renF1, Leaf.renF, AV.one.injEq, Leaf.dat.injEq, D.bool.injEq, D.int.injEq, D.str.injEq, AV.agg.injEq, AV.tup.injEq, List.cons.injEq, and_true, true_and, List.map_cons, List.map_nil]
    exact (ixF_none fun j hj => ht j hj hj).symm
theorem c106_k0 (l : List TEv) (hl : l.length ≤ maxLen) {fid : FuncId} {p : TEv → Bool} (he : enters Try.prog fid = true)
    (hp : ∀ x ∈ l, Ctr Try.prog fid [.agg ((encTEv x).map .dat)] [] (.one (.dat (.bool (p x)))) []) : Ctr Try.prog 106 [.one (.dat (.sl 6 (l.map encTEv))), .one (.fn fid [])] [] (.one (.dat (.int .i64 (ixF p l)))) [] := by
  refine Ctr.body mixed Try.func106 rfl (by kernel_rfl) (Nat.le_of_ble_eq_true rfl) (by simp [AV.Clean, AV.Clean1, Leaf.Clean, D.flat]) (by simp [AObj.Sep]) (by simp [AV.Low, AV.Low1, Leaf.Low]) ?_
  simp (maxSteps := 2000000) only [go_sem, ↓reduceIte, reduceCtorEq, Nat.reduceAdd, Nat.reduceMul, Nat.reduceSub, Nat.reduceLT, Nat.reduceLeDiff, Nat.reduceEqDiff, Int.reduceToNat, Int.reduceLT, Int.reduceLE, Int.reduceNeg]
  refine LoopK_intro (fun n s => ∃ i : Nat, i ≤ l.length ∧ n = l.length - i ∧ (∀ j (hj : j < l.length), j < i → p l[j] = false) ∧ s = mkSt [(8, .one (.dat (.int .i64 i))), (7, .one (.dat (.int .i64 l.length))), (1, .one (.fn fid [])), (0, .one (.dat (.sl 6 (l.map encTEv))))] []) l.length _
    (Ent.weak (ids := []) (by simp) rfl (by simp) (by simp [objsLe, envLe, find, St.obj, AObj.renF, AV.renF, AV.renF1, Leaf.renF, LowAll, AV.Low, AV.Low1, Leaf.Low, AObj.Low, Ptr.renF, Ptr.Low]) (by simp [objsLe, envLe, find, St.obj, AObj.renF, AV.renF, AV.renF1, Leaf.renF, LowAll, AV.Low, AV.Low1, Leaf.Low, AObj.Low, Ptr.renF, Ptr.Low]) (by simp [objsLe, envLe, find, St.obj, AObj.renF, AV.renF, AV.renF1, Leaf.renF, LowAll, AV.Low, AV.Low1, Leaf.Low, AObj.Low, Ptr.renF, Ptr.Low])) ⟨0, by omega, by omega, by simp, rfl⟩ ?_
  rintro n s ⟨i, hi, rfl, ht, rfl⟩ K hK
  simp (maxSteps := 2000000) only [go_sem, ↓reduceIte, reduceCtorEq, Nat.reduceAdd, Nat.reduceMul, Nat.reduceSub, Nat.reduceLT, Nat.reduceLeDiff, Nat.reduceEqDiff, Int.reduceToNat, Int.reduceLT, Int.reduceLE, Int.reduceNeg]
  refine ⟨fun h => ?_, fun h => ?_⟩
  · have hlt : i < l.length := by simpa using h
    have hw := wrap_succ hlt hl
    refine ⟨⟨by omega, by omega⟩, hlt, ?_⟩
    have hpx := hp l[i] (List.getElem_mem hlt)
    simp only [getD_map hlt, encTEv, List.map_cons, List.map_nil, List.take_succ_cons, List.take_zero, List.getD_cons_zero] at hpx ⊢
    refine CallK_pure he hpx rfl ?_
    simp (maxSteps := 2000000) only [go_sem, ↓reduceIte, reduceCtorEq, Nat.reduceAdd, Nat.reduceMul, Nat.reduceSub, Nat.reduceLT, Nat.reduceLeDiff, Nat.reduceEqDiff, Int.reduceToNat, Int.reduceLT, Int.reduceLE, Int.reduceNeg, hw]
    refine ⟨fun h => ?_, fun h => ?_⟩
    · apply hK
      simp (maxSteps := 2000000) only [go_sem, ↓reduceIte, reduceCtorEq, Nat.reduceAdd, Nat.reduceMul, Nat.reduceSub, Nat.reduceLT, Nat.reduceLeDiff, Nat.reduceEqDiff, Int.reduceToNat, Int.reduceLT, Int.reduceLE, Int.reduceNeg]
      refine Fin.intro Try.results106 [] (by simp (maxSteps := 2000000) only [go_sem, ↓reduceIte, reduceCtorEq, Nat.reduceAdd, Nat.reduceMul, Nat.reduceSub, Nat.reduceLT, Nat.reduceLeDiff, Nat.reduceEqDiff, Int.reduceToNat, Int.reduceLT, Int.reduceLE, Int.reduceNeg, resA]; rfl) ?_ ?_ (by simp) rfl (by simp) ?_ <;> try trivial
      simp only [packA, AV.renF, AV.renF1, Leaf.renF, AV.one.injEq, Leaf.dat.injEq, D.bool.injEq, D.int.injEq, D.str.injEq, AV.agg.injEq, AV.tup.injEq, List.cons.injEq, and_true, true_and, List.map_cons, List.map_nil]
      exact (ixF_some hlt h ht).symm
    · apply hK
      refine ⟨l.length - (i + 1), _, by omega, Ent.weak (ids := []) (by simp) rfl (by simp) (by simp [objsLe, envLe, find, St.obj, AObj.renF, AV.renF, AV.renF1, Leaf.renF, LowAll, AV.Low, AV.Low1, Leaf.Low, AObj.Low, Ptr.renF, Ptr.Low]) (by simp [objsLe, envLe, find, St.obj, AObj.renF, AV.renF, AV.renF1, Leaf.renF, LowAll, AV.Low, AV.Low1, Leaf.Low, AObj.Low, Ptr.renF, Ptr.Low]) (by simp [objsLe, envLe, find, St.obj, AObj.renF, AV.renF, AV.renF1, Leaf.renF, LowAll, AV.Low, AV.Low1, Leaf.Low, AObj.Low, Ptr.renF, Ptr.Low]), i + 1, by omega, rfl, fun j hj hji => ?_, rfl⟩
      by_cases e : j = i
      · subst e; exact h
      · exact ht j hj (by omega)
  · have hge : i = l.length := by simp at h; omega
    subst hge
    apply hK
    simp (maxSteps := 2000000) only [go_sem, ↓reduceIte, reduceCtorEq, Nat.reduceAdd, Nat.reduceMul, Nat.reduceSub, Nat.reduceLT, Nat.reduceLeDiff, Nat.reduceEqDiff, Int.reduceToNat, Int.reduceLT, Int.reduceLE, Int.reduceNeg]
    refine Fin.intro Try.results106 [] (by simp (maxSteps := 2000000) only [go_sem, ↓reduceIte, reduceCtorEq, Nat.reduceAdd, Nat.reduceMul, Nat.reduceSub, Nat.reduceLT, Nat.reduceLeDiff, Nat.reduceEqDiff, Int.reduceToNat, Int.reduceLT, Int.reduceLE, Int.reduceNeg, resA]; rfl) ?_ ?_ (by simp) rfl (by simp) ?_ <;> try trivial
    simp only [packA, AV.renF, AV.renF1, Leaf.renF, AV.one.injEq, Leaf.dat.injEq, D.bool.injEq, D.int.injEq, D.str.injEq, AV.agg.injEq, AV.tup.injEq, List.cons.injEq, and_true, true_and, List.map_cons, List.map_nil]
    exact (ixF_none fun j hj => ht j hj hj).symm
theorem c106_k1 (l : List TEv) (hl : l.length ≤ maxLen) {fid : FuncId} {m : Nat} {r : List D} {p : TEv → Bool} (he : enters Try.prog fid = true)
    (hp : ∀ x ∈ l, Ctr Try.prog fid [.agg ((encTEv x).map .dat), .one (.ptr (.ro m [r] 0 0))] [] (.one (.dat (.bool (p x)))) []) : Ctr Try.prog 106 [.one (.dat (.sl 6 (l.map encTEv))), .one (.fn fid [.ro m [r] 0 0])] [] (.one (.dat (.int .i64 (ixF p l)))) [] := by
  refine Ctr.body mixed Try.func106 rfl (by kernel_rfl) (Nat.le_of_ble_eq_true rfl) (by simp [AV.Clean, AV.Clean1, Leaf.Clean, D.flat]) (by simp [AObj.Sep]) (by simp [AV.Low, AV.Low1, Leaf.Low]) ?_
  simp (maxSteps := 2000000) only [go_sem, ↓reduceIte, reduceCtorEq, Nat.reduceAdd, Nat.reduceMul, Nat.reduceSub, Nat.reduceLT, Nat.reduceLeDiff, Nat.reduceEqDiff, Int.reduceToNat, Int.reduceLT, Int.reduceLE, Int.reduceNeg]
  refine LoopK_intro (fun n s => ∃ i : Nat, i ≤ l.length ∧ n = l.length - i ∧ (∀ j (hj : j < l.length), j < i → p l[j] = false) ∧ s = mkSt [(8, .one (.dat (.int .i64 i))), (7, .one (.dat (.int .i64 l.length))), (1, .one (.fn fid [.ro m [r] 0 0])), (0, .one (.dat (.sl 6 (l.map encTEv))))] []) l.length _
    (Ent.weak (ids := []) (by simp) rfl (by simp) (by simp [objsLe, envLe, find, St.obj, AObj.renF, AV.renF, AV.renF1, Leaf.renF, LowAll, AV.Low, AV.Low1, Leaf.Low, AObj.Low, Ptr.renF, Ptr.Low]) (by simp [objsLe, envLe, find, St.obj, AObj.renF, AV.renF, AV.renF1, Leaf.renF, LowAll, AV.Low, AV.Low1, Leaf.Low, AObj.Low, Ptr.renF, Ptr.Low]) (by simp [objsLe, envLe, find, St.obj, AObj.renF, AV.renF, AV.renF1, Leaf.renF, LowAll, AV.Low, AV.Low1, Leaf.Low, AObj.Low, Ptr.renF, Ptr.Low])) ⟨0, by omega, by omega, by simp, rfl⟩ ?_
  rintro n s ⟨i, hi, rfl, ht, rfl⟩ K hK
  simp (maxSteps := 2000000) only [go_sem, ↓reduceIte, reduceCtorEq, Nat.reduceAdd, Nat.reduceMul, Nat.reduceSub, Nat.reduceLT, Nat.reduceLeDiff, Nat.reduceEqDiff, Int.reduceToNat, Int.reduceLT, Int.reduceLE, Int.reduceNeg]
  refine ⟨fun h => ?_, fun h => ?_⟩
  · have hlt : i < l.length := by simpa using h
    have hw := wrap_succ hlt hl
    refine ⟨⟨by omega, by omega⟩, hlt, ?_⟩
    have hpx := hp l[i] (List.getElem_mem hlt)
    simp only [getD_map hlt, encTEv, List.map_cons, List.map_nil, List.take_succ_cons, List.take_zero, List.getD_cons_zero] at hpx ⊢
    refine CallK_pure he hpx rfl ?_
    simp (maxSteps := 2000000) only [go_sem, ↓reduceIte, reduceCtorEq, Nat.reduceAdd, Nat.reduceMul, Nat.reduceSub, Nat.reduceLT, Nat.reduceLeDiff, Nat.reduceEqDiff, Int.reduceToNat, Int.reduceLT, Int.reduceLE, Int.reduceNeg, hw]
    refine ⟨fun h => ?_, fun h => ?_⟩
    · apply hK
      simp (maxSteps := 2000000) only [go_sem, ↓reduceIte, reduceCtorEq, Nat.reduceAdd, Nat.reduceMul, Nat.reduceSub, Nat.reduceLT, Nat.reduceLeDiff, Nat.reduceEqDiff, Int.reduceToNat, Int.reduceLT, Int.reduceLE, Int.reduceNeg]
      refine Fin.intro Try.results106 [] (by simp (maxSteps := 2000000) only [go_sem, ↓reduceIte, reduceCtorEq, Nat.reduceAdd, Nat.reduceMul, Nat.reduceSub, Nat.reduceLT, Nat.reduceLeDiff, Nat.reduceEqDiff, Int.reduceToNat, Int.reduceLT, Int.reduceLE, Int.reduceNeg, resA]; rfl) ?_ ?_ (by simp) rfl (by simp) ?_ <;> try trivial
      simp only [packA, AV.renF, AV.renF1, Leaf.renF, AV.one.injEq, Leaf.dat.injEq, D.bool.injEq, D.int.injEq, D.str.injEq, AV.agg.injEq, AV.tup.injEq, List.cons.injEq, and_true, true_and, List.map_cons, List.map_nil]
      exact (ixF_some hlt h ht).symm
    · apply hK
      refine ⟨l.length - (i + 1), _, by omega, Ent.weak (ids := []) (by simp) rfl (by simp) (by simp [objsLe, envLe, find, St.obj, AObj.renF, AV.renF, AV.renF1, Leaf.renF, LowAll, AV.Low, AV.Low1, Leaf.Low, AObj.Low, Ptr.renF, Ptr.Low]) (by simp [objsLe, envLe, find, St.obj, AObj.renF, AV.renF, AV.renF1, Leaf.renF, LowAll, AV.Low, AV.Low1, Leaf.Low, AObj.Low, Ptr.renF, Ptr.Low]) (by simp [objsLe, envLe, find, St.obj, AObj.renF, AV.renF, AV.renF1, Leaf.renF, LowAll, AV.Low, AV.Low1, Leaf.Low, AObj.Low, Ptr.renF, Ptr.Low]), i + 1, by omega, rfl, fun j hj hji => ?_, rfl⟩
      by_cases e : j = i
      · subst e; exact h
      · exact ht j hj (by omega)
  · have hge : i = l.length := by simp at h; omega
    subst hge
    apply hK
    simp (maxSteps := 2000000) only [go_sem, ↓reduceIte, reduceCtorEq, Nat.reduceAdd, Nat.reduceMul, Nat.reduceSub, Nat.reduceLT, Nat.reduceLeDiff, Nat.reduceEqDiff, Int.reduceToNat, Int.reduceLT, Int.reduceLE, Int.reduceNeg]
    refine Fin.intro Try.results106 [] (by simp (maxSteps := 2000000) only [go_sem, ↓reduceIte, reduceCtorEq, Nat.reduceAdd, Nat.reduceMul, Nat.reduceSub, Nat.reduceLT, Nat.reduceLeDiff, Nat.reduceEqDiff, Int.reduceToNat, Int.reduceLT, Int.reduceLE, Int.reduceNeg, resA]; rfl) ?_ ?_ (by simp) rfl (by simp) ?_ <;> try trivial
    simp only [packA, AV.renF, AV.renF1, Leaf.renF, AV.one.injEq, Leaf.dat.injEq, D.bool.injEq, D.int.injEq, D.str.injEq, AV.agg.injEq, AV.tup.injEq, List.cons.injEq, and_true, true_and, List.map_cons, List.map_nil]
    exact (ixF_none fun j hj => ht j hj hj).symm
theorem c106_k2 (l : List TEv) (hl : l.length ≤ maxLen) {fid : FuncId} {m m2 : Nat} {r r2 : List D} {p : TEv → Bool} (he : enters Try.prog fid = true)
    (hp : ∀ x ∈ l, Ctr Try.prog fid [.agg ((encTEv x).map .dat), .one (.ptr (.ro m [r] 0 0)), .one (.ptr (.ro m2 [r2] 0 0))] [] (.one (.dat (.bool (p x)))) []) : Ctr Try.prog 106 [.one (.dat (.sl 6 (l.map encTEv))), .one (.fn fid [.ro m [r] 0 0, .ro m2 [r2] 0 0])] [] (.one (.dat (.int .i64 (ixF p l)))) [] := by
  refine Ctr.body mixed Try.func106 rfl (by kernel_rfl) (Nat.le_of_ble_eq_true rfl) (by simp [AV.Clean, AV.Clean1, Leaf.Clean, D.flat]) (by simp [AObj.Sep]) (by simp [AV.Low, AV.Low1, Leaf.Low]) ?_
  simp (maxSteps := 2000000) only [go_sem, ↓reduceIte, reduceCtorEq, Nat.reduceAdd, Nat.reduceMul, Nat.reduceSub, Nat.reduceLT, Nat.reduceLeDiff, Nat.reduceEqDiff, Int.reduceToNat, Int.reduceLT, Int.reduceLE, Int.reduceNeg]
  refine LoopK_intro (fun n s => ∃ i : Nat, i ≤ l.length ∧ n = l.length - i ∧ (∀ j (hj : j < l.length), j < i → p l[j] = false) ∧ s = mkSt [(8, .one (.dat (.int .i64 i))), (7, .one (.dat (.int .i64 l.length))), (1, .one (.fn fid [.ro m [r] 0 0, .ro m2 [r2] 0 0])), (0, .one (.dat (.sl 6 (l.map encTEv))))] []) l.length _
    (Ent.weak (ids := []) (by simp) rfl (by simp) (by simp [objsLe, envLe, find, St.obj, AObj.renF, AV.renF, AV.renF1, Leaf.renF, LowAll, AV.Low, AV.Low1, Leaf.Low, AObj.Low, Ptr.renF, Ptr.Low]) (by simp [objsLe, envLe, find, St.obj, AObj.renF, AV.renF, AV.renF1, Leaf.renF, LowAll, AV.Low, AV.Low1, Leaf.Low, AObj.Low, Ptr.renF, Ptr.Low]) (by simp [objsLe, envLe, find, St.obj, AObj.renF, AV.renF, AV.renF1, Leaf.renF, LowAll, AV.Low, AV.Low1, Leaf.Low, AObj.Low, Ptr.renF, Ptr.Low])) ⟨0, by omega, by omega, by simp, rfl⟩ ?_
  rintro n s ⟨i, hi, rfl, ht, rfl⟩ K hK
  simp (maxSteps := 2000000) only [go_sem, ↓reduceIte, reduceCtorEq, Nat.reduceAdd, Nat.reduceMul, Nat.reduceSub, Nat.reduceLT, Nat.reduceLeDiff, Nat.reduceEqDiff, Int.reduceToNat, Int.reduceLT, Int.reduceLE, Int.reduceNeg]
  refine ⟨fun h => ?_, fun h => ?_⟩
  · have hlt : i < l.length := by simpa using h
    have hw := wrap_succ hlt hl
    refine ⟨⟨by omega, by omega⟩, hlt, ?_⟩
    have hpx := hp l[i] (List.getElem_mem hlt)
    simp only [getD_map hlt, encTEv, List.map_cons, List.map_nil, List.take_succ_cons, List.take_zero, List.getD_cons_zero] at hpx ⊢
    refine CallK_pure he hpx rfl ?_
    simp (maxSteps := 2000000) only [go_sem, ↓reduceIte, reduceCtorEq, Nat.reduceAdd, Nat.reduceMul, Nat.reduceSub, Nat.reduceLT, Nat.reduceLeDiff, Nat.reduceEqDiff, Int.reduceToNat, Int.reduceLT, Int.reduceLE, Int.reduceNeg, hw]
    refine ⟨fun h => ?_, fun h => ?_⟩
    · apply hK
      simp (maxSteps := 2000000) only [go_sem, ↓reduceIte, reduceCtorEq, Nat.reduceAdd, Nat.reduceMul, Nat.reduceSub, Nat.reduceLT, Nat.reduceLeDiff, Nat.reduceEqDiff, Int.reduceToNat, Int.reduceLT, Int.reduceLE, Int.reduceNeg]
      refine Fin.intro Try.results106 [] (by simp (maxSteps := 2000000) only [go_sem, ↓reduceIte, reduceCtorEq, Nat.reduceAdd, Nat.reduceMul, Nat.reduceSub, Nat.reduceLT, Nat.reduceLeDiff, Nat.reduceEqDiff, Int.reduceToNat, Int.reduceLT, Int.reduceLE, Int.reduceNeg, resA]; rfl) ?_ ?_ (by simp) rfl (by simp) ?_ <;> try trivial
      simp only [packA, AV.renF, AV.renF1, Leaf.renF, AV.one.injEq, Leaf.dat.injEq, D.bool.injEq, D.int.injEq, D.str.injEq, AV.agg.injEq, AV.tup.injEq, List.cons.injEq, and_true, true_and, List.map_cons, List.map_nil]
      exact (ixF_some hlt h ht).symm
    · apply hK
      refine ⟨l.length - (i + 1), _, by omega, Ent.weak (ids := []) (by simp) rfl (by simp) (by simp [objsLe, envLe, find, St.obj, AObj.renF, AV.renF, AV.renF1, Leaf.renF, LowAll, AV.Low, AV.Low1, Leaf.Low, AObj.Low, Ptr.renF, Ptr.Low]) (by simp [objsLe, envLe, find, St.obj, AObj.renF, AV.renF, AV.renF1, Leaf.renF, LowAll, AV.Low, AV.Low1, Leaf.Low, AObj.Low, Ptr.renF, Ptr.Low]) (by simp [objsLe, envLe, find, St.obj, AObj.renF, AV.renF, AV.renF1, Leaf.renF, LowAll, AV.Low, AV.Low1, Leaf.Low, AObj.Low, Ptr.renF, Ptr.Low]), i + 1, by omega, rfl, fun j hj hji => ?_, rfl⟩
      by_cases e : j = i
      · subst e; exact h
      · exact ht j hj (by omega)
  · have hge : i = l.length := by simp at h; omega
    subst hge
    apply hK
    simp (maxSteps := 2000000) only [go_sem, ↓reduceIte, reduceCtorEq, Nat.reduceAdd, Nat.reduceMul, Nat.reduceSub, Nat.reduceLT, Nat.reduceLeDiff, Nat.reduceEqDiff, Int.reduceToNat, Int.reduceLT, Int.reduceLE, Int.reduceNeg]
    refine Fin.intro Try.results106 [] (by simp (maxSteps := 2000000) only [go_sem, ↓reduceIte, reduceCtorEq, Nat.reduceAdd, Nat.reduceMul, Nat.reduceSub, Nat.reduceLT, Nat.reduceLeDiff, Nat.reduceEqDiff, Int.reduceToNat, Int.reduceLT, Int.reduceLE, Int.reduceNeg, resA]; rfl) ?_ ?_ (by simp) rfl (by simp) ?_ <;> try trivial
    simp only [packA, AV.renF, AV.renF1, Leaf.renF, AV.one.injEq, Leaf.dat.injEq, D.bool.injEq, D.int.injEq, D.str.injEq, AV.agg.injEq, AV.tup.injEq, List.cons.injEq, and_true, true_and, List.map_cons, List.map_nil]
    exact (ixF_none fun j hj => ht j hj hj).symm
end Go.Proofs.Ytkfpkemibnmkoaa.Mod
