/- Contracts: Sl2. -/
import Derived.Test.YtjfpaiencojehaaGreatRows
import Derived.Test.YtjfpaiencojehaaGreatTy
import Derived.Test.YtjfpaiencojehaaGreatAbsTac
import Derived.Test.YtjfpaiencojehaaGreatAbsData
import Derived.Test.YtjfpaiencojehaaGreatMFam2
import Derived.Test.YtjfpaiencojehaaGreatMSl
import Derived.WalkKit
import Derived.ProofKit
import Derived.OpenShut
namespace Go.Proofs.YtjfpaiencojehaaGreat.Mod
open Go.Abs Go.Proofs.YtjfpaiencojehaaGreat.Ty Go.ChangeShapes Go.WideShapes Go.ChangeAt Go.RowKit
set_option linter.unusedSimpArgs false
set_option linter.unusedVariables false
set_option maxHeartbeats 8000000
set_option maxRecDepth 100000
theorem ixF_any {α : Type} (p : α → Bool) (l : List α) : decide (0 ≤ ixF p l) = l.any p := by
  rcases ixF_cases p l with ⟨e, hno⟩ | ⟨i, hi, e, hp, _⟩
  · rw [e]
    symm
    have : l.any p = false := by
      rw [List.any_eq_false]
      intro x hx
      obtain ⟨j, hj, rfl⟩ := List.getElem_of_mem hx
      simp [hno j hj]
    rw [this]; rfl
  · rw [e]
    have : l.any p = true := List.any_eq_true.2 ⟨_, List.getElem_mem hi, hp⟩
    rw [this]; simp
theorem c63_k0 (l : List TQueue) (hl : l.length ≤ maxLen) {fid : FuncId} {p : TQueue → Bool} (he : enters Tryz.prog fid = true)
    (hp : ∀ x ∈ l, Ctr Tryz.prog fid [.agg ((encTQueue x).map .dat)] [] (.one (.dat (.bool (p x)))) []) : Ctr Tryz.prog 63 [.one (.dat (.sl 1 (l.map encTQueue))), .one (.fn fid [])] [] (.one (.dat (.int .i64 (ixF p l)))) [] := by
  refine Ctr.bd mixed Tryz.func63 rfl ?_
  refine evl ?_
  refine LoopK_intro (fun n s => ∃ i : Nat, i ≤ l.length ∧ n = l.length - i ∧ (∀ j (hj : j < l.length), j < i → p l[j] = false) ∧ s = mkSt [(8, .one (.dat (.int .i64 i))), (7, .one (.dat (.int .i64 l.length))), (1, .one (.fn fid [])), (0, .one (.dat (.sl 1 (l.map encTQueue))))] []) l.length _
    (Ent.weak (ids := []) (by simp) rfl (by simp) (by simp [objsLe, envLe, find, St.obj, AObj.renF, AV.renF, AV.renF1, Leaf.renF, LowAll, AV.Low, AV.Low1, Leaf.Low, AObj.Low, Ptr.renF, Ptr.Low]) (by simp [objsLe, envLe, find, St.obj, AObj.renF, AV.renF, AV.renF1, Leaf.renF, LowAll, AV.Low, AV.Low1, Leaf.Low, AObj.Low, Ptr.renF, Ptr.Low]) (by simp [objsLe, envLe, find, St.obj, AObj.renF, AV.renF, AV.renF1, Leaf.renF, LowAll, AV.Low, AV.Low1, Leaf.Low, AObj.Low, Ptr.renF, Ptr.Low])) ⟨0, by omega, by omega, by simp, rfl⟩ ?_
  rintro n s ⟨i, hi, rfl, ht, rfl⟩ K hK
  refine evl ?_
  refine ⟨fun h => ?_, fun h => ?_⟩
  · have hlt : i < l.length := by simpa using h
    have hw := wrap_succ hlt hl
    refine ⟨⟨by omega, by omega⟩, hlt, ?_⟩
    have hpx := hp l[i] (List.getElem_mem hlt)
    simp only [getD_map hlt, encTQueue, List.map_cons, List.map_nil, List.take_succ_cons, List.take_zero, List.getD_cons_zero] at hpx ⊢
    refine CallK_pure he hpx rfl ?_
    simp (maxSteps := 2000000) only [go_sem, ↓reduceIte, reduceCtorEq, Nat.reduceAdd, Nat.reduceMul, Nat.reduceSub, Nat.reduceLT, Nat.reduceLeDiff, Nat.reduceEqDiff, Int.reduceToNat, Int.reduceLT, Int.reduceLE, Int.reduceNeg, hw]
    refine ⟨fun h => ?_, fun h => ?_⟩
    · apply hK
      refine evl ?_
      refine Fin.nt Tryz.results63 [] ?_ ?_ ?_ <;> try trivial
      first | exact True.intro | (refine rsl ?_; try exact True.intro)
      exact (ixF_some hlt h ht).symm
    · apply hK
      refine ⟨l.length - (i + 1), _, by omega, Ent.weak (ids := []) (by simp) rfl (by simp) (by simp [objsLe, envLe, find, St.obj, AObj.renF, AV.renF, AV.renF1, Leaf.renF, LowAll, AV.Low, AV.Low1, Leaf.Low, AObj.Low, Ptr.renF, Ptr.Low]) (by simp [objsLe, envLe, find, St.obj, AObj.renF, AV.renF, AV.renF1, Leaf.renF, LowAll, AV.Low, AV.Low1, Leaf.Low, AObj.Low, Ptr.renF, Ptr.Low]) (by simp [objsLe, envLe, find, St.obj, AObj.renF, AV.renF, AV.renF1, Leaf.renF, LowAll, AV.Low, AV.Low1, Leaf.Low, AObj.Low, Ptr.renF, Ptr.Low]), i + 1, by omega, rfl, fun j hj hji => ?_, rfl⟩
      by_cases e : j = i
      · subst e; exact h
      · exact ht j hj (by omega)
  · have hge : i = l.length := by simp at h; omega
    subst hge
    apply hK
    refine evl ?_
    refine Fin.nt Tryz.results63 [] ?_ ?_ ?_ <;> try trivial
    first | exact True.intro | (refine rsl ?_; try exact True.intro)
    exact (ixF_none fun j hj => ht j hj hj).symm
theorem c24_k0 (l : List TQueue) (hl : l.length ≤ maxLen) {fid : FuncId} {p : TQueue → Bool} (he : enters Tryz.prog fid = true)
    (hp : ∀ x ∈ l, Ctr Tryz.prog fid [.agg ((encTQueue x).map .dat)] [] (.one (.dat (.bool (p x)))) []) : Ctr Tryz.prog 24 [.one (.dat (.sl 1 (l.map encTQueue))), .one (.fn fid [])] [] (.one (.dat (.bool (l.any p)))) [] := by
  refine Ctr.bd mixed Tryz.func24 rfl ?_
  refine evl ?_
  refine CallK_pure e63 (c63_k0 l hl he hp) rfl ?_
  refine evl ?_
  refine Fin.nt Tryz.results24 [] ?_ ?_ ?_ <;> try trivial
  first | exact True.intro | (refine rsl ?_; try exact True.intro)
  exact ixF_any p l
theorem c63_k1 (l : List TQueue) (hl : l.length ≤ maxLen) {fid : FuncId} {m : Nat} {r : List D} {p : TQueue → Bool} (he : enters Tryz.prog fid = true)
    (hp : ∀ x ∈ l, Ctr Tryz.prog fid [.agg ((encTQueue x).map .dat), .one (.ptr (.ro m [r] 0 0))] [] (.one (.dat (.bool (p x)))) []) : Ctr Tryz.prog 63 [.one (.dat (.sl 1 (l.map encTQueue))), .one (.fn fid [.ro m [r] 0 0])] [] (.one (.dat (.int .i64 (ixF p l)))) [] := by
  refine Ctr.bd mixed Tryz.func63 rfl ?_
  refine evl ?_
  refine LoopK_intro (fun n s => ∃ i : Nat, i ≤ l.length ∧ n = l.length - i ∧ (∀ j (hj : j < l.length), j < i → p l[j] = false) ∧ s = mkSt [(8, .one (.dat (.int .i64 i))), (7, .one (.dat (.int .i64 l.length))), (1, .one (.fn fid [.ro m [r] 0 0])), (0, .one (.dat (.sl 1 (l.map encTQueue))))] []) l.length _
    (Ent.weak (ids := []) (by simp) rfl (by simp) (by simp [objsLe, envLe, find, St.obj, AObj.renF, AV.renF, AV.renF1, Leaf.renF, LowAll, AV.Low, AV.Low1, Leaf.Low, AObj.Low, Ptr.renF, Ptr.Low]) (by simp [objsLe, envLe, find, St.obj, AObj.renF, AV.renF, AV.renF1, Leaf.renF, LowAll, AV.Low, AV.Low1, Leaf.Low, AObj.Low, Ptr.renF, Ptr.Low]) (by simp [objsLe, envLe, find, St.obj, AObj.renF, AV.renF, AV.renF1, Leaf.renF, LowAll, AV.Low, AV.Low1, Leaf.Low, AObj.Low, Ptr.renF, Ptr.Low])) ⟨0, by omega, by omega, by simp, rfl⟩ ?_
  rintro n s ⟨i, hi, rfl, ht, rfl⟩ K hK
  refine evl ?_
  refine ⟨fun h => ?_, fun h => ?_⟩
  · have hlt : i < l.length := by simpa using h
    have hw := wrap_succ hlt hl
    refine ⟨⟨by omega, by omega⟩, hlt, ?_⟩
    have hpx := hp l[i] (List.getElem_mem hlt)
    simp only [getD_map hlt, encTQueue, List.map_cons, List.map_nil, List.take_succ_cons, List.take_zero, List.getD_cons_zero] at hpx ⊢
    refine CallK_pure he hpx rfl ?_
    simp (maxSteps := 2000000) only [go_sem, ↓reduceIte, reduceCtorEq, Nat.reduceAdd, Nat.reduceMul, Nat.reduceSub, Nat.reduceLT, Nat.reduceLeDiff, Nat.reduceEqDiff, Int.reduceToNat, Int.reduceLT, Int.reduceLE, Int.reduceNeg, hw]
    refine ⟨fun h => ?_, fun h => ?_⟩
    · apply hK
      refine evl ?_
      refine Fin.nt Tryz.results63 [] ?_ ?_ ?_ <;> try trivial
      first | exact True.intro | (refine rsl ?_; try exact True.intro)
      exact (ixF_some hlt h ht).symm
    · apply hK
      refine ⟨l.length - (i + 1), _, by omega, Ent.weak (ids := []) (by simp) rfl (by simp) (by simp [objsLe, envLe, find, St.obj, AObj.renF, AV.renF, AV.renF1, Leaf.renF, LowAll, AV.Low, AV.Low1, Leaf.Low, AObj.Low, Ptr.renF, Ptr.Low]) (by simp [objsLe, envLe, find, St.obj, AObj.renF, AV.renF, AV.renF1, Leaf.renF, LowAll, AV.Low, AV.Low1, Leaf.Low, AObj.Low, Ptr.renF, Ptr.Low]) (by simp [objsLe, envLe, find, St.obj, AObj.renF, AV.renF, AV.renF1, Leaf.renF, LowAll, AV.Low, AV.Low1, Leaf.Low, AObj.Low, Ptr.renF, Ptr.Low]), i + 1, by omega, rfl, fun j hj hji => ?_, rfl⟩
      by_cases e : j = i
      · subst e; exact h
      · exact ht j hj (by omega)
  · have hge : i = l.length := by simp at h; omega
    subst hge
    apply hK
    refine evl ?_
    refine Fin.nt Tryz.results63 [] ?_ ?_ ?_ <;> try trivial
    first | exact True.intro | (refine rsl ?_; try exact True.intro)
    exact (ixF_none fun j hj => ht j hj hj).symm
theorem c24_k1 (l : List TQueue) (hl : l.length ≤ maxLen) {fid : FuncId} {m : Nat} {r : List D} {p : TQueue → Bool} (he : enters Tryz.prog fid = true)
    (hp : ∀ x ∈ l, Ctr Tryz.prog fid [.agg ((encTQueue x).map .dat), .one (.ptr (.ro m [r] 0 0))] [] (.one (.dat (.bool (p x)))) []) : Ctr Tryz.prog 24 [.one (.dat (.sl 1 (l.map encTQueue))), .one (.fn fid [.ro m [r] 0 0])] [] (.one (.dat (.bool (l.any p)))) [] := by
  refine Ctr.bd mixed Tryz.func24 rfl ?_
  refine evl ?_
  refine CallK_pure e63 (c63_k1 l hl he hp) rfl ?_
  refine evl ?_
  refine Fin.nt Tryz.results24 [] ?_ ?_ ?_ <;> try trivial
  first | exact True.intro | (refine rsl ?_; try exact True.intro)
  exact ixF_any p l
theorem c63_k2 (l : List TQueue) (hl : l.length ≤ maxLen) {fid : FuncId} {m m2 : Nat} {r r2 : List D} {p : TQueue → Bool} (he : enters Tryz.prog fid = true)
    (hp : ∀ x ∈ l, Ctr Tryz.prog fid [.agg ((encTQueue x).map .dat), .one (.ptr (.ro m [r] 0 0)), .one (.ptr (.ro m2 [r2] 0 0))] [] (.one (.dat (.bool (p x)))) []) : Ctr Tryz.prog 63 [.one (.dat (.sl 1 (l.map encTQueue))), .one (.fn fid [.ro m [r] 0 0, .ro m2 [r2] 0 0])] [] (.one (.dat (.int .i64 (ixF p l)))) [] := by
  refine Ctr.bd mixed Tryz.func63 rfl ?_
  refine evl ?_
  refine LoopK_intro (fun n s => ∃ i : Nat, i ≤ l.length ∧ n = l.length - i ∧ (∀ j (hj : j < l.length), j < i → p l[j] = false) ∧ s = mkSt [(8, .one (.dat (.int .i64 i))), (7, .one (.dat (.int .i64 l.length))), (1, .one (.fn fid [.ro m [r] 0 0, .ro m2 [r2] 0 0])), (0, .one (.dat (.sl 1 (l.map encTQueue))))] []) l.length _
    (Ent.weak (ids := []) (by simp) rfl (by simp) (by simp [objsLe, envLe, find, St.obj, AObj.renF, AV.renF, AV.renF1, Leaf.renF, LowAll, AV.Low, AV.Low1, Leaf.Low, AObj.Low, Ptr.renF, Ptr.Low]) (by simp [objsLe, envLe, find, St.obj, AObj.renF, AV.renF, AV.renF1, Leaf.renF, LowAll, AV.Low, AV.Low1, Leaf.Low, AObj.Low, Ptr.renF, Ptr.Low]) (by simp [objsLe, envLe, find, St.obj, AObj.renF, AV.renF, AV.renF1, Leaf.renF, LowAll, AV.Low, AV.Low1, Leaf.Low, AObj.Low, Ptr.renF, Ptr.Low])) ⟨0, by omega, by omega, by simp, rfl⟩ ?_
  rintro n s ⟨i, hi, rfl, ht, rfl⟩ K hK
  refine evl ?_
  refine ⟨fun h => ?_, fun h => ?_⟩
  · have hlt : i < l.length := by simpa using h
    have hw := wrap_succ hlt hl
    refine ⟨⟨by omega, by omega⟩, hlt, ?_⟩
    have hpx := hp l[i] (List.getElem_mem hlt)
    simp only [getD_map hlt, encTQueue, List.map_cons, List.map_nil, List.take_succ_cons, List.take_zero, List.getD_cons_zero] at hpx ⊢
    refine CallK_pure he hpx rfl ?_
    simp (maxSteps := 2000000) only [go_sem, ↓reduceIte, reduceCtorEq, Nat.reduceAdd, Nat.reduceMul, Nat.reduceSub, Nat.reduceLT, Nat.reduceLeDiff, Nat.reduceEqDiff, Int.reduceToNat, Int.reduceLT, Int.reduceLE, Int.reduceNeg, hw]
    refine ⟨fun h => ?_, fun h => ?_⟩
    · apply hK
      refine evl ?_
      refine Fin.nt Tryz.results63 [] ?_ ?_ ?_ <;> try trivial
      first | exact True.intro | (refine rsl ?_; try exact True.intro)
      exact (ixF_some hlt h ht).symm
    · apply hK
      refine ⟨l.length - (i + 1), _, by omega, Ent.weak (ids := []) (by simp) rfl (by simp) (by simp [objsLe, envLe, find, St.obj, AObj.renF, AV.renF, AV.renF1, Leaf.renF, LowAll, AV.Low, AV.Low1, Leaf.Low, AObj.Low, Ptr.renF, Ptr.Low]) (by simp [objsLe, envLe, find, St.obj, AObj.renF, AV.renF, AV.renF1, Leaf.renF, LowAll, AV.Low, AV.Low1, Leaf.Low, AObj.Low, Ptr.renF, Ptr.Low]) (by simp [objsLe, envLe, find, St.obj, AObj.renF, AV.renF, AV.renF1, Leaf.renF, LowAll, AV.Low, AV.Low1, Leaf.Low, AObj.Low, Ptr.renF, Ptr.Low]), i + 1, by omega, rfl, fun j hj hji => ?_, rfl⟩
      by_cases e : j = i
      · subst e; exact h
      · exact ht j hj (by omega)
  · have hge : i = l.length := by simp at h; omega
    subst hge
    apply hK
    refine evl ?_
    refine Fin.nt Tryz.results63 [] ?_ ?_ ?_ <;> try trivial
    first | exact True.intro | (refine rsl ?_; try exact True.intro)
    exact (ixF_none fun j hj => ht j hj hj).symm
theorem c24_k2 (l : List TQueue) (hl : l.length ≤ maxLen) {fid : FuncId} {m m2 : Nat} {r r2 : List D} {p : TQueue → Bool} (he : enters Tryz.prog fid = true)
    (hp : ∀ x ∈ l, Ctr Tryz.prog fid [.agg ((encTQueue x).map .dat), .one (.ptr (.ro m [r] 0 0)), .one (.ptr (.ro m2 [r2] 0 0))] [] (.one (.dat (.bool (p x)))) []) : Ctr Tryz.prog 24 [.one (.dat (.sl 1 (l.map encTQueue))), .one (.fn fid [.ro m [r] 0 0, .ro m2 [r2] 0 0])] [] (.one (.dat (.bool (l.any p)))) [] := by
  refine Ctr.bd mixed Tryz.func24 rfl ?_
  refine evl ?_
  refine CallK_pure e63 (c63_k2 l hl he hp) rfl ?_
  refine evl ?_
  refine Fin.nt Tryz.results24 [] ?_ ?_ ?_ <;> try trivial
  first | exact True.intro | (refine rsl ?_; try exact True.intro)
  exact ixF_any p l
theorem c62_k0 (l : List TJob) (hl : l.length ≤ maxLen) {fid : FuncId} {p : TJob → Bool} (he : enters Tryz.prog fid = true)
    (hp : ∀ x ∈ l, Ctr Tryz.prog fid [.agg ((encTJob x).map .dat)] [] (.one (.dat (.bool (p x)))) []) : Ctr Tryz.prog 62 [.one (.dat (.sl 32 (l.map encTJob))), .one (.fn fid [])] [] (.one (.dat (.int .i64 (ixF p l)))) [] := by
  refine Ctr.bd mixed Tryz.func62 rfl ?_
  refine evl ?_
  refine LoopK_intro (fun n s => ∃ i : Nat, i ≤ l.length ∧ n = l.length - i ∧ (∀ j (hj : j < l.length), j < i → p l[j] = false) ∧ s = mkSt [(8, .one (.dat (.int .i64 i))), (7, .one (.dat (.int .i64 l.length))), (1, .one (.fn fid [])), (0, .one (.dat (.sl 32 (l.map encTJob))))] []) l.length _
    (Ent.weak (ids := []) (by simp) rfl (by simp) (by simp [objsLe, envLe, find, St.obj, AObj.renF, AV.renF, AV.renF1, Leaf.renF, LowAll, AV.Low, AV.Low1, Leaf.Low, AObj.Low, Ptr.renF, Ptr.Low]) (by simp [objsLe, envLe, find, St.obj, AObj.renF, AV.renF, AV.renF1, Leaf.renF, LowAll, AV.Low, AV.Low1, Leaf.Low, AObj.Low, Ptr.renF, Ptr.Low]) (by simp [objsLe, envLe, find, St.obj, AObj.renF, AV.renF, AV.renF1, Leaf.renF, LowAll, AV.Low, AV.Low1, Leaf.Low, AObj.Low, Ptr.renF, Ptr.Low])) ⟨0, by omega, by omega, by simp, rfl⟩ ?_
  rintro n s ⟨i, hi, rfl, ht, rfl⟩ K hK
  refine evl ?_
  refine ⟨fun h => ?_, fun h => ?_⟩
  · have hlt : i < l.length := by simpa using h
    have hw := wrap_succ hlt hl
    refine ⟨⟨by omega, by omega⟩, hlt, ?_⟩
    have hpx := hp l[i] (List.getElem_mem hlt)
    simp only [getD_map hlt, encTJob, List.map_cons, List.map_nil, List.take_succ_cons, List.take_zero, List.getD_cons_zero] at hpx ⊢
    refine CallK_pure he hpx rfl ?_
    simp (maxSteps := 2000000) only [go_sem, ↓reduceIte, reduceCtorEq, Nat.reduceAdd, Nat.reduceMul, Nat.reduceSub, Nat.reduceLT, Nat.reduceLeDiff, Nat.reduceEqDiff, Int.reduceToNat, Int.reduceLT, Int.reduceLE, Int.reduceNeg, hw]
    refine ⟨fun h => ?_, fun h => ?_⟩
    · apply hK
      refine evl ?_
      refine Fin.nt Tryz.results62 [] ?_ ?_ ?_ <;> try trivial
      first | exact True.intro | (refine rsl ?_; try exact True.intro)
      exact (ixF_some hlt h ht).symm
    · apply hK
      refine ⟨l.length - (i + 1), _, by omega, Ent.weak (ids := []) (by simp) rfl (by simp) (by simp [objsLe, envLe, find, St.obj, AObj.renF, AV.renF, AV.renF1, Leaf.renF, LowAll, AV.Low, AV.Low1, Leaf.Low, AObj.Low, Ptr.renF, Ptr.Low]) (by simp [objsLe, envLe, find, St.obj, AObj.renF, AV.renF, AV.renF1, Leaf.renF, LowAll, AV.Low, AV.Low1, Leaf.Low, AObj.Low, Ptr.renF, Ptr.Low]) (by simp [objsLe, envLe, find, St.obj, AObj.renF, AV.renF, AV.renF1, Leaf.renF, LowAll, AV.Low, AV.Low1, Leaf.Low, AObj.Low, Ptr.renF, Ptr.Low]), i + 1, by omega, rfl, fun j hj hji => ?_, rfl⟩
      by_cases e : j = i
      · subst e; exact h
      · exact ht j hj (by omega)
  · have hge : i = l.length := by simp at h; omega
    subst hge
    apply hK
    refine evl ?_
    refine Fin.nt Tryz.results62 [] ?_ ?_ ?_ <;> try trivial
    first | exact True.intro | (refine rsl ?_; try exact True.intro)
    exact (ixF_none fun j hj => ht j hj hj).symm
theorem c22_k0 (l : List TJob) (hl : l.length ≤ maxLen) {fid : FuncId} {p : TJob → Bool} (he : enters Tryz.prog fid = true)
    (hp : ∀ x ∈ l, Ctr Tryz.prog fid [.agg ((encTJob x).map .dat)] [] (.one (.dat (.bool (p x)))) []) : Ctr Tryz.prog 22 [.one (.dat (.sl 32 (l.map encTJob))), .one (.fn fid [])] [] (.one (.dat (.bool (l.any p)))) [] := by
  refine Ctr.bd mixed Tryz.func22 rfl ?_
  refine evl ?_
  refine CallK_pure e62 (c62_k0 l hl he hp) rfl ?_
  refine evl ?_
  refine Fin.nt Tryz.results22 [] ?_ ?_ ?_ <;> try trivial
  first | exact True.intro | (refine rsl ?_; try exact True.intro)
  exact ixF_any p l
theorem c62_k1 (l : List TJob) (hl : l.length ≤ maxLen) {fid : FuncId} {m : Nat} {r : List D} {p : TJob → Bool} (he : enters Tryz.prog fid = true)
    (hp : ∀ x ∈ l, Ctr Tryz.prog fid [.agg ((encTJob x).map .dat), .one (.ptr (.ro m [r] 0 0))] [] (.one (.dat (.bool (p x)))) []) : Ctr Tryz.prog 62 [.one (.dat (.sl 32 (l.map encTJob))), .one (.fn fid [.ro m [r] 0 0])] [] (.one (.dat (.int .i64 (ixF p l)))) [] := by
  refine Ctr.bd mixed Tryz.func62 rfl ?_
  refine evl ?_
  refine LoopK_intro (fun n s => ∃ i : Nat, i ≤ l.length ∧ n = l.length - i ∧ (∀ j (hj : j < l.length), j < i → p l[j] = false) ∧ s = mkSt [(8, .one (.dat (.int .i64 i))), (7, .one (.dat (.int .i64 l.length))), (1, .one (.fn fid [.ro m [r] 0 0])), (0, .one (.dat (.sl 32 (l.map encTJob))))] []) l.length _
    (Ent.weak (ids := []) (by simp) rfl (by simp) (by simp [objsLe, envLe, find, St.obj, AObj.renF, AV.renF, AV.renF1, Leaf.renF, LowAll, AV.Low, AV.Low1, Leaf.Low, AObj.Low, Ptr.renF, Ptr.Low]) (by simp [objsLe, envLe, find, St.obj, AObj.renF, AV.renF, AV.renF1, Leaf.renF, LowAll, AV.Low, AV.Low1, Leaf.Low, AObj.Low, Ptr.renF, Ptr.Low]) (by simp [objsLe, envLe, find, St.obj, AObj.renF, AV.renF, AV.renF1, Leaf.renF, LowAll, AV.Low, AV.Low1, Leaf.Low, AObj.Low, Ptr.renF, Ptr.Low])) ⟨0, by omega, by omega, by simp, rfl⟩ ?_
  rintro n s ⟨i, hi, rfl, ht, rfl⟩ K hK
  refine evl ?_
  refine ⟨fun h => ?_, fun h => ?_⟩
  · have hlt : i < l.length := by simpa using h
    have hw := wrap_succ hlt hl
    refine ⟨⟨by omega, by omega⟩, hlt, ?_⟩
    have hpx := hp l[i] (List.getElem_mem hlt)
    simp only [getD_map hlt, encTJob, List.map_cons, List.map_nil, List.take_succ_cons, List.take_zero, List.getD_cons_zero] at hpx ⊢
    refine CallK_pure he hpx rfl ?_
    simp (maxSteps := 2000000) only [go_sem, ↓reduceIte, reduceCtorEq, Nat.reduceAdd, Nat.reduceMul, Nat.reduceSub, Nat.reduceLT, Nat.reduceLeDiff, Nat.reduceEqDiff, Int.reduceToNat, Int.reduceLT, Int.reduceLE, Int.reduceNeg, hw]
    refine ⟨fun h => ?_, fun h => ?_⟩
    · apply hK
      refine evl ?_
      refine Fin.nt Tryz.results62 [] ?_ ?_ ?_ <;> try trivial
      first | exact True.intro | (refine rsl ?_; try exact True.intro)
      exact (ixF_some hlt h ht).symm
    · apply hK
      refine ⟨l.length - (i + 1), _, by omega, Ent.weak (ids := []) (by simp) rfl (by simp) (by simp [objsLe, envLe, find, St.obj, AObj.renF, AV.renF, AV.renF1, Leaf.renF, LowAll, AV.Low, AV.Low1, Leaf.Low, AObj.Low, Ptr.renF, Ptr.Low]) (by simp [objsLe, envLe, find, St.obj, AObj.renF, AV.renF, AV.renF1, Leaf.renF, LowAll, AV.Low, AV.Low1, Leaf.Low, AObj.Low, Ptr.renF, Ptr.Low]) (by simp [objsLe, envLe, find, St.obj, AObj.renF, AV.renF, AV.renF1, Leaf.renF, LowAll, AV.Low, AV.Low1, Leaf.Low, AObj.Low, Ptr.renF, Ptr.Low]), i + 1, by omega, rfl, fun j hj hji => ?_, rfl⟩
      by_cases e : j = i
      · subst e; exact h
      · exact ht j hj (by omega)
  · have hge : i = l.length := by simp at h; omega
    subst hge
    apply hK
    refine evl ?_
    refine Fin.nt Tryz.results62 [] ?_ ?_ ?_ <;> try trivial
    first | exact True.intro | (refine rsl ?_; try exact True.intro)
    exact (ixF_none fun j hj => ht j hj hj).symm
theorem c22_k1 (l : List TJob) (hl : l.length ≤ maxLen) {fid : FuncId} {m : Nat} {r : List D} {p : TJob → Bool} (he : enters Tryz.prog fid = true)
    (hp : ∀ x ∈ l, Ctr Tryz.prog fid [.agg ((encTJob x).map .dat), .one (.ptr (.ro m [r] 0 0))] [] (.one (.dat (.bool (p x)))) []) : Ctr Tryz.prog 22 [.one (.dat (.sl 32 (l.map encTJob))), .one (.fn fid [.ro m [r] 0 0])] [] (.one (.dat (.bool (l.any p)))) [] := by
  refine Ctr.bd mixed Tryz.func22 rfl ?_
  refine evl ?_
  refine CallK_pure e62 (c62_k1 l hl he hp) rfl ?_
  refine evl ?_
  refine Fin.nt Tryz.results22 [] ?_ ?_ ?_ <;> try trivial
  first | exact True.intro | (refine rsl ?_; try exact True.intro)
  exact ixF_any p l
theorem c62_k2 (l : List TJob) (hl : l.length ≤ maxLen) {fid : FuncId} {m m2 : Nat} {r r2 : List D} {p : TJob → Bool} (he : enters Tryz.prog fid = true)
    (hp : ∀ x ∈ l, Ctr Tryz.prog fid [.agg ((encTJob x).map .dat), .one (.ptr (.ro m [r] 0 0)), .one (.ptr (.ro m2 [r2] 0 0))] [] (.one (.dat (.bool (p x)))) []) : Ctr Tryz.prog 62 [.one (.dat (.sl 32 (l.map encTJob))), .one (.fn fid [.ro m [r] 0 0, .ro m2 [r2] 0 0])] [] (.one (.dat (.int .i64 (ixF p l)))) [] := by
  refine Ctr.bd mixed Tryz.func62 rfl ?_
  refine evl ?_
  refine LoopK_intro (fun n s => ∃ i : Nat, i ≤ l.length ∧ n = l.length - i ∧ (∀ j (hj : j < l.length), j < i → p l[j] = false) ∧ s = mkSt [(8, .one (.dat (.int .i64 i))), (7, .one (.dat (.int .i64 l.length))), (1, .one (.fn fid [.ro m [r] 0 0, .ro m2 [r2] 0 0])), (0, .one (.dat (.sl 32 (l.map encTJob))))] []) l.length _
    (Ent.weak (ids := []) (by simp) rfl (by simp) (by simp [objsLe, envLe, find, St.obj, AObj.renF, AV.renF, AV.renF1, Leaf.renF, LowAll, AV.Low, AV.Low1, Leaf.Low, AObj.Low, Ptr.renF, Ptr.Low]) (by simp [objsLe, envLe, find, St.obj, AObj.renF, AV.renF, AV.renF1, Leaf.renF, LowAll, AV.Low, AV.Low1, Leaf.Low, AObj.Low, Ptr.renF, Ptr.Low]) (by simp [objsLe, envLe, find, St.obj, AObj.renF, AV.renF, AV.renF1, Leaf.renF, LowAll, AV.Low, AV.Low1, Leaf.Low, AObj.Low, Ptr.renF, Ptr.Low])) ⟨0, by omega, by omega, by simp, rfl⟩ ?_
  rintro n s ⟨i, hi, rfl, ht, rfl⟩ K hK
  refine evl ?_
  refine ⟨fun h => ?_, fun h => ?_⟩
  · have hlt : i < l.length := by simpa using h
    have hw := wrap_succ hlt hl
    refine ⟨⟨by omega, by omega⟩, hlt, ?_⟩
    have hpx := hp l[i] (List.getElem_mem hlt)
    simp only [getD_map hlt, encTJob, List.map_cons, List.map_nil, List.take_succ_cons, List.take_zero, List.getD_cons_zero] at hpx ⊢
    refine CallK_pure he hpx rfl ?_
    simp (maxSteps := 2000000) only [go_sem, ↓reduceIte, reduceCtorEq, Nat.reduceAdd, Nat.reduceMul, Nat.reduceSub, Nat.reduceLT, Nat.reduceLeDiff, Nat.reduceEqDiff, Int.reduceToNat, Int.reduceLT, Int.reduceLE, Int.reduceNeg, hw]
    refine ⟨fun h => ?_, fun h => ?_⟩
    · apply hK
      refine evl ?_
      refine Fin.nt Tryz.results62 [] ?_ ?_ ?_ <;> try trivial
      first | exact True.intro | (refine rsl ?_; try exact True.intro)
      exact (ixF_some hlt h ht).symm
    · apply hK
      refine ⟨l.length - (i + 1), _, by omega, Ent.weak (ids := []) (by simp) rfl (by simp) (by simp [objsLe, envLe, find, St.obj, AObj.renF, AV.renF, AV.renF1, Leaf.renF, LowAll, AV.Low, AV.Low1, Leaf.Low, AObj.Low, Ptr.renF, Ptr.Low]) (by simp [objsLe, envLe, find, St.obj, AObj.renF, AV.renF, AV.renF1, Leaf.renF, LowAll, AV.Low, AV.Low1, Leaf.Low, AObj.Low, Ptr.renF, Ptr.Low]) (by simp [objsLe, envLe, find, St.obj, AObj.renF, AV.renF, AV.renF1, Leaf.renF, LowAll, AV.Low, AV.Low1, Leaf.Low, AObj.Low, Ptr.renF, Ptr.Low]), i + 1, by omega, rfl, fun j hj hji => ?_, rfl⟩
      by_cases e : j = i
      · subst e; exact h
      · exact ht j hj (by omega)
  · have hge : i = l.length := by simp at h; omega
    subst hge
    apply hK
    refine evl ?_
    refine Fin.nt Tryz.results62 [] ?_ ?_ ?_ <;> try trivial
    first | exact True.intro | (refine rsl ?_; try exact True.intro)
    exact (ixF_none fun j hj => ht j hj hj).symm
theorem c22_k2 (l : List TJob) (hl : l.length ≤ maxLen) {fid : FuncId} {m m2 : Nat} {r r2 : List D} {p : TJob → Bool} (he : enters Tryz.prog fid = true)
    (hp : ∀ x ∈ l, Ctr Tryz.prog fid [.agg ((encTJob x).map .dat), .one (.ptr (.ro m [r] 0 0)), .one (.ptr (.ro m2 [r2] 0 0))] [] (.one (.dat (.bool (p x)))) []) : Ctr Tryz.prog 22 [.one (.dat (.sl 32 (l.map encTJob))), .one (.fn fid [.ro m [r] 0 0, .ro m2 [r2] 0 0])] [] (.one (.dat (.bool (l.any p)))) [] := by
  refine Ctr.bd mixed Tryz.func22 rfl ?_
  refine evl ?_
  refine CallK_pure e62 (c62_k2 l hl he hp) rfl ?_
  refine evl ?_
  refine Fin.nt Tryz.results22 [] ?_ ?_ ?_ <;> try trivial
  first | exact True.intro | (refine rsl ?_; try exact True.intro)
  exact ixF_any p l
end Go.Proofs.YtjfpaiencojehaaGreat.Mod
