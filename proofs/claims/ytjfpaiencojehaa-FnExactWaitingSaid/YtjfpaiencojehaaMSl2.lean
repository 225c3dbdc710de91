/- Contracts: Sl2. -/
import Derived.Test.YtjfpaiencojehaaRows
import Derived.Test.YtjfpaiencojehaaTy
import Derived.Test.YtjfpaiencojehaaAbsTac
import Derived.Test.YtjfpaiencojehaaAbsData
import Derived.Test.YtjfpaiencojehaaMFam2
import Derived.Test.YtjfpaiencojehaaMSl
import Derived.WalkKit
import Derived.ProofKit
import Derived.OpenShut
namespace Go.Proofs.Ytjfpaiencojehaa.Mod
open Go.Abs Go.Proofs.Ytjfpaiencojehaa.Ty Go.ChangeShapes Go.WideShapes Go.ChangeAt Go.RowKit
set_option linter.unusedSimpArgs false
set_option linter.unusedVariables false
set_option maxHeartbeats 8000000
set_option maxRecDepth 100000
theorem ixF_any {α : Type} (p : α → Bool) (l : List α) : decide (0 ≤ ixF p l) = l.any p := by
  rcases ixF_cases p l with ⟨e, hno⟩ | ⟨i, hi, e, hp, _⟩
  · rw [e]
    symm
    have : l.any p = false := by
      rw [List.any_eq_false]
      intro x hx
      obtain ⟨j, hj, rfl⟩ := List.getElem_of_mem hx
      simp [hno j hj]
    rw [this]; rfl
  · rw [e]
    have : l.any p = true := List.any_eq_true.2 ⟨_, List.getElem_mem hi, hp⟩
    rw [this]; simp
theorem c127 (l : List Int) (hl : l.length ≤ maxLen) (v : Int) : Ctr Try.prog 127 [.one (.dat (.sl 1 (l.map encI))), .one (.dat (.int .i64 v))] [] (.one (.dat (.int .i64 (ixF (fun x => x == v) l)))) [] := by
  refine Ctr.bd mixed Try.func127 rfl ?_
  refine evl ?_
  refine LoopK_intro (fun zn zs => ∃ i : Nat, i ≤ l.length ∧ zn = l.length - i ∧ (∀ j (hj : j < l.length), j < i → (l[j] == v) = false) ∧ zs = mkSt [(8, .one (.dat (.int .i64 i))), (7, .one (.dat (.int .i64 (l.length)))), (0, .one (.dat (.sl 1 (l.map encI)))), (1, .one (.dat (.int .i64 v)))] []) (l.length) _
    (Ent.wk []) ⟨0, by omega, by omega, by simp, rfl⟩ ?_
  rintro zn zs ⟨i, hi, rfl, hinv, rfl⟩ K hK
  rcases Nat.lt_or_ge i (l.length) with hlt | hge
  · have hdi : decide ((i : Int) < ((l.length : Nat) : Int)) = true := decide_eq_true (by omega)
    have hw := wrap_succ hlt hl
    simp (maxSteps := 2000000) only [go_sem, ↓reduceIte, reduceCtorEq, Nat.reduceAdd, Nat.reduceMul, Nat.reduceSub, Nat.reduceLT, Nat.reduceLeDiff, Nat.reduceEqDiff, Int.reduceToNat, Int.reduceLT, Int.reduceLE, Int.reduceNeg, hdi, hw, getD_map hlt, encI, List.length_map]
    refine ⟨⟨by omega, by omega⟩, hlt, ?_⟩
    refine ⟨fun h => ?_, fun h => ?_⟩
    · apply hK
      refine evl ?_
      refine Fin.nt Try.results127 [] ?_ ?_ ?_ <;> try trivial
      first | exact True.intro | (refine rsl ?_; try exact True.intro)
      exact (ixF_some (p := fun x => x == v) hlt (BEq.comm.trans h) hinv).symm
    · (apply hK
       exact ⟨l.length - (i + 1), _, by omega, Ent.wk [], i + 1, by omega, rfl, fun j hj hji => if e : j = i then by subst e; exact BEq.comm.trans h else hinv j hj (by omega), rfl⟩)
  · have hge' : l.length = i := by omega
    subst hge'
    have hdi : decide (((l.length : Nat) : Int) < ((l.length : Nat) : Int)) = false := by simp
    simp (maxSteps := 2000000) only [go_sem, ↓reduceIte, reduceCtorEq, Nat.reduceAdd, Nat.reduceMul, Nat.reduceSub, Nat.reduceLT, Nat.reduceLeDiff, Nat.reduceEqDiff, Int.reduceToNat, Int.reduceLT, Int.reduceLE, Int.reduceNeg, hdi, List.length_map]
    apply hK
    refine evl ?_
    refine Fin.nt Try.results127 [] ?_ ?_ ?_ <;> try trivial
    first | exact True.intro | (refine rsl ?_; try exact True.intro)
    exact (ixF_none fun j hj => hinv j hj hj).symm
theorem c91 (l : List Int) (hl : l.length ≤ maxLen) (v : Int) : Ctr Try.prog 91 [.one (.dat (.sl 1 (l.map encI))), .one (.dat (.int .i64 v))] [] (.one (.dat (.bool (l.any fun x => x == v)))) [] := by
  refine Ctr.bd mixed Try.func91 rfl ?_
  refine evl ?_
  refine CallK_pure e127 (c127 l hl v) rfl ?_
  refine evl ?_
  refine Fin.nt Try.results91 [] ?_ ?_ ?_ <;> try trivial
  first | exact True.intro | (refine rsl ?_; try exact True.intro)
  exact ixF_any _ l
theorem c145_k0 (l : List KV) (hl : l.length ≤ maxLen) {fid : FuncId} {p : KV → Bool} (he : enters Try.prog fid = true)
    (hp : ∀ x ∈ l, Ctr Try.prog fid [.agg ((encKV x).map .dat)] [] (.one (.dat (.bool (p x)))) []) : Ctr Try.prog 145 [.one (.dat (.sl 2 (l.map encKV))), .one (.fn fid [])] [] (.one (.dat (.int .i64 (ixF p l)))) [] := by
  refine Ctr.bd mixed Try.func145 rfl ?_
  refine evl ?_
  refine LoopK_intro (fun n s => ∃ i : Nat, i ≤ l.length ∧ n = l.length - i ∧ (∀ j (hj : j < l.length), j < i → p l[j] = false) ∧ s = mkSt [(8, .one (.dat (.int .i64 i))), (7, .one (.dat (.int .i64 l.length))), (1, .one (.fn fid [])), (0, .one (.dat (.sl 2 (l.map encKV))))] []) l.length _
    (Ent.weak (ids := []) (by simp) rfl (by simp) (by simp [objsLe, envLe, find, St.obj, AObj.renF, AV.renF, AV.renF1, Leaf.renF, LowAll, AV.Low, AV.Low1, Leaf.Low, AObj.Low, Ptr.renF, Ptr.Low]) (by simp [objsLe, envLe, find, St.obj, AObj.renF, AV.renF, AV.renF1, Leaf.renF, LowAll, AV.Low, AV.Low1, Leaf.Low, AObj.Low, Ptr.renF, Ptr.Low]) (by simp [objsLe, envLe, find, St.obj, AObj.renF, AV.renF, AV.renF1, Leaf.renF, LowAll, AV.Low, AV.Low1, Leaf.Low, AObj.Low, Ptr.renF, Ptr.Low])) ⟨0, by omega, by omega, by simp, rfl⟩ ?_
  rintro n s ⟨i, hi, rfl, ht, rfl⟩ K hK
  refine evl ?_
  refine ⟨fun h => ?_, fun h => ?_⟩
  · have hlt : i < l.length := by simpa using h
    have hw := wrap_succ hlt hl
    refine ⟨⟨by omega, by omega⟩, hlt, ?_⟩
    have hpx := hp l[i] (List.getElem_mem hlt)
    simp only [getD_map hlt, encKV, List.map_cons, List.map_nil, List.take_succ_cons, List.take_zero, List.getD_cons_zero] at hpx ⊢
    refine CallK_pure he hpx rfl ?_
    simp (maxSteps := 2000000) only [go_sem, ↓reduceIte, reduceCtorEq, Nat.reduceAdd, Nat.reduceMul, Nat.reduceSub, Nat.reduceLT, Nat.reduceLeDiff, Nat.reduceEqDiff, Int.reduceToNat, Int.reduceLT, Int.reduceLE, Int.reduceNeg, hw]
    refine ⟨fun h => ?_, fun h => ?_⟩
    · apply hK
      refine evl ?_
      refine Fin.nt Try.results145 [] ?_ ?_ ?_ <;> try trivial
      first | exact True.intro | (refine rsl ?_; try exact True.intro)
      exact (ixF_some hlt h ht).symm
    · apply hK
      refine ⟨l.length - (i + 1), _, by omega, Ent.weak (ids := []) (by simp) rfl (by simp) (by simp [objsLe, envLe, find, St.obj, AObj.renF, AV.renF, AV.renF1, Leaf.renF, LowAll, AV.Low, AV.Low1, Leaf.Low, AObj.Low, Ptr.renF, Ptr.Low]) (by simp [objsLe, envLe, find, St.obj, AObj.renF, AV.renF, AV.renF1, Leaf.renF, LowAll, AV.Low, AV.Low1, Leaf.Low, AObj.Low, Ptr.renF, Ptr.Low]) (by simp [objsLe, envLe, find, St.obj, AObj.renF, AV.renF, AV.renF1, Leaf.renF, LowAll, AV.Low, AV.Low1, Leaf.Low, AObj.Low, Ptr.renF, Ptr.Low]), i + 1, by omega, rfl, fun j hj hji => ?_, rfl⟩
      by_cases e : j = i
      · subst e; exact h
      · exact ht j hj (by omega)
  · have hge : i = l.length := by simp at h; omega
    subst hge
    apply hK
    refine evl ?_
    refine Fin.nt Try.results145 [] ?_ ?_ ?_ <;> try trivial
    first | exact True.intro | (refine rsl ?_; try exact True.intro)
    exact (ixF_none fun j hj => ht j hj hj).symm
theorem c145_k1 (l : List KV) (hl : l.length ≤ maxLen) {fid : FuncId} {m : Nat} {r : List D} {p : KV → Bool} (he : enters Try.prog fid = true)
    (hp : ∀ x ∈ l, Ctr Try.prog fid [.agg ((encKV x).map .dat), .one (.ptr (.ro m [r] 0 0))] [] (.one (.dat (.bool (p x)))) []) : Ctr Try.prog 145 [.one (.dat (.sl 2 (l.map encKV))), .one (.fn fid [.ro m [r] 0 0])] [] (.one (.dat (.int .i64 (ixF p l)))) [] := by
  refine Ctr.bd mixed Try.func145 rfl ?_
  refine evl ?_
  refine LoopK_intro (fun n s => ∃ i : Nat, i ≤ l.length ∧ n = l.length - i ∧ (∀ j (hj : j < l.length), j < i → p l[j] = false) ∧ s = mkSt [(8, .one (.dat (.int .i64 i))), (7, .one (.dat (.int .i64 l.length))), (1, .one (.fn fid [.ro m [r] 0 0])), (0, .one (.dat (.sl 2 (l.map encKV))))] []) l.length _
    (Ent.weak (ids := []) (by simp) rfl (by simp) (by simp [objsLe, envLe, find, St.obj, AObj.renF, AV.renF, AV.renF1, Leaf.renF, LowAll, AV.Low, AV.Low1, Leaf.Low, AObj.Low, Ptr.renF, Ptr.Low]) (by simp [objsLe, envLe, find, St.obj, AObj.renF, AV.renF, AV.renF1, Leaf.renF, LowAll, AV.Low, AV.Low1, Leaf.Low, AObj.Low, Ptr.renF, Ptr.Low]) (by simp [objsLe, envLe, find, St.obj, AObj.renF, AV.renF, AV.renF1, Leaf.renF, LowAll, AV.Low, AV.Low1, Leaf.Low, AObj.Low, Ptr.renF, Ptr.Low])) ⟨0, by omega, by omega, by simp, rfl⟩ ?_
  rintro n s ⟨i, hi, rfl, ht, rfl⟩ K hK
  refine evl ?_
  refine ⟨fun h => ?_, fun h => ?_⟩
  · have hlt : i < l.length := by simpa using h
    have hw := wrap_succ hlt hl
    refine ⟨⟨by omega, by omega⟩, hlt, ?_⟩
    have hpx := hp l[i] (List.getElem_mem hlt)
    simp only [getD_map hlt, encKV, List.map_cons, List.map_nil, List.take_succ_cons, List.take_zero, List.getD_cons_zero] at hpx ⊢
    refine CallK_pure he hpx rfl ?_
    simp (maxSteps := 2000000) only [go_sem, ↓reduceIte, reduceCtorEq, Nat.reduceAdd, Nat.reduceMul, Nat.reduceSub, Nat.reduceLT, Nat.reduceLeDiff, Nat.reduceEqDiff, Int.reduceToNat, Int.reduceLT, Int.reduceLE, Int.reduceNeg, hw]
    refine ⟨fun h => ?_, fun h => ?_⟩
    · apply hK
      refine evl ?_
      refine Fin.nt Try.results145 [] ?_ ?_ ?_ <;> try trivial
      first | exact True.intro | (refine rsl ?_; try exact True.intro)
      exact (ixF_some hlt h ht).symm
    · apply hK
      refine ⟨l.length - (i + 1), _, by omega, Ent.weak (ids := []) (by simp) rfl (by simp) (by simp [objsLe, envLe, find, St.obj, AObj.renF, AV.renF, AV.renF1, Leaf.renF, LowAll, AV.Low, AV.Low1, Leaf.Low, AObj.Low, Ptr.renF, Ptr.Low]) (by simp [objsLe, envLe, find, St.obj, AObj.renF, AV.renF, AV.renF1, Leaf.renF, LowAll, AV.Low, AV.Low1, Leaf.Low, AObj.Low, Ptr.renF, Ptr.Low]) (by simp [objsLe, envLe, find, St.obj, AObj.renF, AV.renF, AV.renF1, Leaf.renF, LowAll, AV.Low, AV.Low1, Leaf.Low, AObj.Low, Ptr.renF, Ptr.Low]), i + 1, by omega, rfl, fun j hj hji => ?_, rfl⟩
      by_cases e : j = i
      · subst e; exact h
      · exact ht j hj (by omega)
  · have hge : i = l.length := by simp at h; omega
    subst hge
    apply hK
    refine evl ?_
    refine Fin.nt Try.results145 [] ?_ ?_ ?_ <;> try trivial
    first | exact True.intro | (refine rsl ?_; try exact True.intro)
    exact (ixF_none fun j hj => ht j hj hj).symm
theorem c145_k2 (l : List KV) (hl : l.length ≤ maxLen) {fid : FuncId} {m m2 : Nat} {r r2 : List D} {p : KV → Bool} (he : enters Try.prog fid = true)
    (hp : ∀ x ∈ l, Ctr Try.prog fid [.agg ((encKV x).map .dat), .one (.ptr (.ro m [r] 0 0)), .one (.ptr (.ro m2 [r2] 0 0))] [] (.one (.dat (.bool (p x)))) []) : Ctr Try.prog 145 [.one (.dat (.sl 2 (l.map encKV))), .one (.fn fid [.ro m [r] 0 0, .ro m2 [r2] 0 0])] [] (.one (.dat (.int .i64 (ixF p l)))) [] := by
  refine Ctr.bd mixed Try.func145 rfl ?_
  refine evl ?_
  refine LoopK_intro (fun n s => ∃ i : Nat, i ≤ l.length ∧ n = l.length - i ∧ (∀ j (hj : j < l.length), j < i → p l[j] = false) ∧ s = mkSt [(8, .one (.dat (.int .i64 i))), (7, .one (.dat (.int .i64 l.length))), (1, .one (.fn fid [.ro m [r] 0 0, .ro m2 [r2] 0 0])), (0, .one (.dat (.sl 2 (l.map encKV))))] []) l.length _
    (Ent.weak (ids := []) (by simp) rfl (by simp) (by simp [objsLe, envLe, find, St.obj, AObj.renF, AV.renF, AV.renF1, Leaf.renF, LowAll, AV.Low, AV.Low1, Leaf.Low, AObj.Low, Ptr.renF, Ptr.Low]) (by simp [objsLe, envLe, find, St.obj, AObj.renF, AV.renF, AV.renF1, Leaf.renF, LowAll, AV.Low, AV.Low1, Leaf.Low, AObj.Low, Ptr.renF, Ptr.Low]) (by simp [objsLe, envLe, find, St.obj, AObj.renF, AV.renF, AV.renF1, Leaf.renF, LowAll, AV.Low, AV.Low1, Leaf.Low, AObj.Low, Ptr.renF, Ptr.Low])) ⟨0, by omega, by omega, by simp, rfl⟩ ?_
  rintro n s ⟨i, hi, rfl, ht, rfl⟩ K hK
  refine evl ?_
  refine ⟨fun h => ?_, fun h => ?_⟩
  · have hlt : i < l.length := by simpa using h
    have hw := wrap_succ hlt hl
    refine ⟨⟨by omega, by omega⟩, hlt, ?_⟩
    have hpx := hp l[i] (List.getElem_mem hlt)
    simp only [getD_map hlt, encKV, List.map_cons, List.map_nil, List.take_succ_cons, List.take_zero, List.getD_cons_zero] at hpx ⊢
    refine CallK_pure he hpx rfl ?_
    simp (maxSteps := 2000000) only [go_sem, ↓reduceIte, reduceCtorEq, Nat.reduceAdd, Nat.reduceMul, Nat.reduceSub, Nat.reduceLT, Nat.reduceLeDiff, Nat.reduceEqDiff, Int.reduceToNat, Int.reduceLT, Int.reduceLE, Int.reduceNeg, hw]
    refine ⟨fun h => ?_, fun h => ?_⟩
    · apply hK
      refine evl ?_
      refine Fin.nt Try.results145 [] ?_ ?_ ?_ <;> try trivial
      first | exact True.intro | (refine rsl ?_; try exact True.intro)
      exact (ixF_some hlt h ht).symm
    · apply hK
      refine ⟨l.length - (i + 1), _, by omega, Ent.weak (ids := []) (by simp) rfl (by simp) (by simp [objsLe, envLe, find, St.obj, AObj.renF, AV.renF, AV.renF1, Leaf.renF, LowAll, AV.Low, AV.Low1, Leaf.Low, AObj.Low, Ptr.renF, Ptr.Low]) (by simp [objsLe, envLe, find, St.obj, AObj.renF, AV.renF, AV.renF1, Leaf.renF, LowAll, AV.Low, AV.Low1, Leaf.Low, AObj.Low, Ptr.renF, Ptr.Low]) (by simp [objsLe, envLe, find, St.obj, AObj.renF, AV.renF, AV.renF1, Leaf.renF, LowAll, AV.Low, AV.Low1, Leaf.Low, AObj.Low, Ptr.renF, Ptr.Low]), i + 1, by omega, rfl, fun j hj hji => ?_, rfl⟩
      by_cases e : j = i
      · subst e; exact h
      · exact ht j hj (by omega)
  · have hge : i = l.length := by simp at h; omega
    subst hge
    apply hK
    refine evl ?_
    refine Fin.nt Try.results145 [] ?_ ?_ ?_ <;> try trivial
    first | exact True.intro | (refine rsl ?_; try exact True.intro)
    exact (ixF_none fun j hj => ht j hj hj).symm
theorem c92_k0 (l : List TEv) (hl : l.length ≤ maxLen) {fid : FuncId} {p : TEv → Bool} (he : enters Try.prog fid = true)
    (hp : ∀ x ∈ l, Ctr Try.prog fid [.agg ((encTEv x).map .dat)] [] (.one (.dat (.bool (p x)))) []) : Ctr Try.prog 92 [.one (.dat (.sl 6 (l.map encTEv))), .one (.fn fid [])] [] (.one (.dat (.int .i64 (ixF p l)))) [] := by
  refine Ctr.bd mixed Try.func92 rfl ?_
  refine evl ?_
  refine LoopK_intro (fun n s => ∃ i : Nat, i ≤ l.length ∧ n = l.length - i ∧ (∀ j (hj : j < l.length), j < i → p l[j] = false) ∧ s = mkSt [(8, .one (.dat (.int .i64 i))), (7, .one (.dat (.int .i64 l.length))), (1, .one (.fn fid [])), (0, .one (.dat (.sl 6 (l.map encTEv))))] []) l.length _
    (Ent.weak (ids := []) (by simp) rfl (by simp) (by simp [objsLe, envLe, find, St.obj, AObj.renF, AV.renF, AV.renF1, Leaf.renF, LowAll, AV.Low, AV.Low1, Leaf.Low, AObj.Low, Ptr.renF, Ptr.Low]) (by simp [objsLe, envLe, find, St.obj, AObj.renF, AV.renF, AV.renF1, Leaf.renF, LowAll, AV.Low, AV.Low1, Leaf.Low, AObj.Low, Ptr.renF, Ptr.Low]) (by simp [objsLe, envLe, find, St.obj, AObj.renF, AV.renF, AV.renF1, Leaf.renF, LowAll, AV.Low, AV.Low1, Leaf.Low, AObj.Low, Ptr.renF, Ptr.Low])) ⟨0, by omega, by omega, by simp, rfl⟩ ?_
  rintro n s ⟨i, hi, rfl, ht, rfl⟩ K hK
  refine evl ?_
  refine ⟨fun h => ?_, fun h => ?_⟩
  · have hlt : i < l.length := by simpa using h
    have hw := wrap_succ hlt hl
    refine ⟨⟨by omega, by omega⟩, hlt, ?_⟩
    have hpx := hp l[i] (List.getElem_mem hlt)
    simp only [getD_map hlt, encTEv, List.map_cons, List.map_nil, List.take_succ_cons, List.take_zero, List.getD_cons_zero] at hpx ⊢
    refine CallK_pure he hpx rfl ?_
    simp (maxSteps := 2000000) only [go_sem, ↓reduceIte, reduceCtorEq, Nat.reduceAdd, Nat.reduceMul, Nat.reduceSub, Nat.reduceLT, Nat.reduceLeDiff, Nat.reduceEqDiff, Int.reduceToNat, Int.reduceLT, Int.reduceLE, Int.reduceNeg, hw]
    refine ⟨fun h => ?_, fun h => ?_⟩
    · apply hK
      refine evl ?_
      refine Fin.nt Try.results92 [] ?_ ?_ ?_ <;> try trivial
      first | exact True.intro | (refine rsl ?_; try exact True.intro)
      exact (ixF_some hlt h ht).symm
    · apply hK
      refine ⟨l.length - (i + 1), _, by omega, Ent.weak (ids := []) (by simp) rfl (by simp) (by simp [objsLe, envLe, find, St.obj, AObj.renF, AV.renF, AV.renF1, Leaf.renF, LowAll, AV.Low, AV.Low1, Leaf.Low, AObj.Low, Ptr.renF, Ptr.Low]) (by simp [objsLe, envLe, find, St.obj, AObj.renF, AV.renF, AV.renF1, Leaf.renF, LowAll, AV.Low, AV.Low1, Leaf.Low, AObj.Low, Ptr.renF, Ptr.Low]) (by simp [objsLe, envLe, find, St.obj, AObj.renF, AV.renF, AV.renF1, Leaf.renF, LowAll, AV.Low, AV.Low1, Leaf.Low, AObj.Low, Ptr.renF, Ptr.Low]), i + 1, by omega, rfl, fun j hj hji => ?_, rfl⟩
      by_cases e : j = i
      · subst e; exact h
      · exact ht j hj (by omega)
  · have hge : i = l.length := by simp at h; omega
    subst hge
    apply hK
    refine evl ?_
    refine Fin.nt Try.results92 [] ?_ ?_ ?_ <;> try trivial
    first | exact True.intro | (refine rsl ?_; try exact True.intro)
    exact (ixF_none fun j hj => ht j hj hj).symm
theorem c92_k1 (l : List TEv) (hl : l.length ≤ maxLen) {fid : FuncId} {m : Nat} {r : List D} {p : TEv → Bool} (he : enters Try.prog fid = true)
    (hp : ∀ x ∈ l, Ctr Try.prog fid [.agg ((encTEv x).map .dat), .one (.ptr (.ro m [r] 0 0))] [] (.one (.dat (.bool (p x)))) []) : Ctr Try.prog 92 [.one (.dat (.sl 6 (l.map encTEv))), .one (.fn fid [.ro m [r] 0 0])] [] (.one (.dat (.int .i64 (ixF p l)))) [] := by
  refine Ctr.bd mixed Try.func92 rfl ?_
  refine evl ?_
  refine LoopK_intro (fun n s => ∃ i : Nat, i ≤ l.length ∧ n = l.length - i ∧ (∀ j (hj : j < l.length), j < i → p l[j] = false) ∧ s = mkSt [(8, .one (.dat (.int .i64 i))), (7, .one (.dat (.int .i64 l.length))), (1, .one (.fn fid [.ro m [r] 0 0])), (0, .one (.dat (.sl 6 (l.map encTEv))))] []) l.length _
    (Ent.weak (ids := []) (by simp) rfl (by simp) (by simp [objsLe, envLe, find, St.obj, AObj.renF, AV.renF, AV.renF1, Leaf.renF, LowAll, AV.Low, AV.Low1, Leaf.Low, AObj.Low, Ptr.renF, Ptr.Low]) (by simp [objsLe, envLe, find, St.obj, AObj.renF, AV.renF, AV.renF1, Leaf.renF, LowAll, AV.Low, AV.Low1, Leaf.Low, AObj.Low, Ptr.renF, Ptr.Low]) (by simp [objsLe, envLe, find, St.obj, AObj.renF, AV.renF, AV.renF1, Leaf.renF, LowAll, AV.Low, AV.Low1, Leaf.Low, AObj.Low, Ptr.renF, Ptr.Low])) ⟨0, by omega, by omega, by simp, rfl⟩ ?_
  rintro n s ⟨i, hi, rfl, ht, rfl⟩ K hK
  refine evl ?_
  refine ⟨fun h => ?_, fun h => ?_⟩
  · have hlt : i < l.length := by simpa using h
    have hw := wrap_succ hlt hl
    refine ⟨⟨by omega, by omega⟩, hlt, ?_⟩
    have hpx := hp l[i] (List.getElem_mem hlt)
    simp only [getD_map hlt, encTEv, List.map_cons, List.map_nil, List.take_succ_cons, List.take_zero, List.getD_cons_zero] at hpx ⊢
    refine CallK_pure he hpx rfl ?_
    simp (maxSteps := 2000000) only [go_sem, ↓reduceIte, reduceCtorEq, Nat.reduceAdd, Nat.reduceMul, Nat.reduceSub, Nat.reduceLT, Nat.reduceLeDiff, Nat.reduceEqDiff, Int.reduceToNat, Int.reduceLT, Int.reduceLE, Int.reduceNeg, hw]
    refine ⟨fun h => ?_, fun h => ?_⟩
    · apply hK
      refine evl ?_
      refine Fin.nt Try.results92 [] ?_ ?_ ?_ <;> try trivial
      first | exact True.intro | (refine rsl ?_; try exact True.intro)
      exact (ixF_some hlt h ht).symm
    · apply hK
      refine ⟨l.length - (i + 1), _, by omega, Ent.weak (ids := []) (by simp) rfl (by simp) (by simp [objsLe, envLe, find, St.obj, AObj.renF, AV.renF, AV.renF1, Leaf.renF, LowAll, AV.Low, AV.Low1, Leaf.Low, AObj.Low, Ptr.renF, Ptr.Low]) (by simp [objsLe, envLe, find, St.obj, AObj.renF, AV.renF, AV.renF1, Leaf.renF, LowAll, AV.Low, AV.Low1, Leaf.Low, AObj.Low, Ptr.renF, Ptr.Low]) (by simp [objsLe, envLe, find, St.obj, AObj.renF, AV.renF, AV.renF1, Leaf.renF, LowAll, AV.Low, AV.Low1, Leaf.Low, AObj.Low, Ptr.renF, Ptr.Low]), i + 1, by omega, rfl, fun j hj hji => ?_, rfl⟩
      by_cases e : j = i
      · subst e; exact h
      · exact ht j hj (by omega)
  · have hge : i = l.length := by simp at h; omega
    subst hge
    apply hK
    refine evl ?_
    refine Fin.nt Try.results92 [] ?_ ?_ ?_ <;> try trivial
    first | exact True.intro | (refine rsl ?_; try exact True.intro)
    exact (ixF_none fun j hj => ht j hj hj).symm
theorem c92_k2 (l : List TEv) (hl : l.length ≤ maxLen) {fid : FuncId} {m m2 : Nat} {r r2 : List D} {p : TEv → Bool} (he : enters Try.prog fid = true)
    (hp : ∀ x ∈ l, Ctr Try.prog fid [.agg ((encTEv x).map .dat), .one (.ptr (.ro m [r] 0 0)), .one (.ptr (.ro m2 [r2] 0 0))] [] (.one (.dat (.bool (p x)))) []) : Ctr Try.prog 92 [.one (.dat (.sl 6 (l.map encTEv))), .one (.fn fid [.ro m [r] 0 0, .ro m2 [r2] 0 0])] [] (.one (.dat (.int .i64 (ixF p l)))) [] := by
  refine Ctr.bd mixed Try.func92 rfl ?_
  refine evl ?_
  refine LoopK_intro (fun n s => ∃ i : Nat, i ≤ l.length ∧ n = l.length - i ∧ (∀ j (hj : j < l.length), j < i → p l[j] = false) ∧ s = mkSt [(8, .one (.dat (.int .i64 i))), (7, .one (.dat (.int .i64 l.length))), (1, .one (.fn fid [.ro m [r] 0 0, .ro m2 [r2] 0 0])), (0, .one (.dat (.sl 6 (l.map encTEv))))] []) l.length _
    (Ent.weak (ids := []) (by simp) rfl (by simp) (by simp [objsLe, envLe, find, St.obj, AObj.renF, AV.renF, AV.renF1, Leaf.renF, LowAll, AV.Low, AV.Low1, Leaf.Low, AObj.Low, Ptr.renF, Ptr.Low]) (by simp [objsLe, envLe, find, St.obj, AObj.renF, AV.renF, AV.renF1, Leaf.renF, LowAll, AV.Low, AV.Low1, Leaf.Low, AObj.Low, Ptr.renF, Ptr.Low]) (by simp [objsLe, envLe, find, St.obj, AObj.renF, AV.renF, AV.renF1, Leaf.renF, LowAll, AV.Low, AV.Low1, Leaf.Low, AObj.Low, Ptr.renF, Ptr.Low])) ⟨0, by omega, by omega, by simp, rfl⟩ ?_
  rintro n s ⟨i, hi, rfl, ht, rfl⟩ K hK
  refine evl ?_
  refine ⟨fun h => ?_, fun h => ?_⟩
  · have hlt : i < l.length := by simpa using h
    have hw := wrap_succ hlt hl
    refine ⟨⟨by omega, by omega⟩, hlt, ?_⟩
    have hpx := hp l[i] (List.getElem_mem hlt)
    simp only [getD_map hlt, encTEv, List.map_cons, List.map_nil, List.take_succ_cons, List.take_zero, List.getD_cons_zero] at hpx ⊢
    refine CallK_pure he hpx rfl ?_
    simp (maxSteps := 2000000) only [go_sem, ↓reduceIte, reduceCtorEq, Nat.reduceAdd, Nat.reduceMul, Nat.reduceSub, Nat.reduceLT, Nat.reduceLeDiff, Nat.reduceEqDiff, Int.reduceToNat, Int.reduceLT, Int.reduceLE, Int.reduceNeg, hw]
    refine ⟨fun h => ?_, fun h => ?_⟩
    · apply hK
      refine evl ?_
      refine Fin.nt Try.results92 [] ?_ ?_ ?_ <;> try trivial
      first | exact True.intro | (refine rsl ?_; try exact True.intro)
      exact (ixF_some hlt h ht).symm
    · apply hK
      refine ⟨l.length - (i + 1), _, by omega, Ent.weak (ids := []) (by simp) rfl (by simp) (by simp [objsLe, envLe, find, St.obj, AObj.renF, AV.renF, AV.renF1, Leaf.renF, LowAll, AV.Low, AV.Low1, Leaf.Low, AObj.Low, Ptr.renF, Ptr.Low]) (by simp [objsLe, envLe, find, St.obj, AObj.renF, AV.renF, AV.renF1, Leaf.renF, LowAll, AV.Low, AV.Low1, Leaf.Low, AObj.Low, Ptr.renF, Ptr.Low]) (by simp [objsLe, envLe, find, St.obj, AObj.renF, AV.renF, AV.renF1, Leaf.renF, LowAll, AV.Low, AV.Low1, Leaf.Low, AObj.Low, Ptr.renF, Ptr.Low]), i + 1, by omega, rfl, fun j hj hji => ?_, rfl⟩
      by_cases e : j = i
      · subst e; exact h
      · exact ht j hj (by omega)
  · have hge : i = l.length := by simp at h; omega
    subst hge
    apply hK
    refine evl ?_
    refine Fin.nt Try.results92 [] ?_ ?_ ?_ <;> try trivial
    first | exact True.intro | (refine rsl ?_; try exact True.intro)
    exact (ixF_none fun j hj => ht j hj hj).symm
end Go.Proofs.Ytjfpaiencojehaa.Mod
