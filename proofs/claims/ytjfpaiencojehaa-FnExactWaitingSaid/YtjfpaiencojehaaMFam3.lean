/- Contracts: Fam3. -/
import Derived.Test.YtjfpaiencojehaaRows
import Derived.Test.YtjfpaiencojehaaTy
import Derived.Test.YtjfpaiencojehaaAbsTac
import Derived.Test.YtjfpaiencojehaaAbsData
import Derived.Test.YtjfpaiencojehaaMFam2
import Derived.WalkKit
import Derived.ProofKit
import Derived.OpenShut
namespace Go.Proofs.Ytjfpaiencojehaa.Mod
open Go.Abs Go.Proofs.Ytjfpaiencojehaa.Ty Go.ChangeShapes Go.WideShapes Go.ChangeAt Go.RowKit
set_option linter.unusedSimpArgs false
set_option linter.unusedVariables false
set_option maxHeartbeats 8000000
set_option maxRecDepth 100000
def markInts (k : Int) (n : Nat) : List (List D) := (List.range n).map fun i => encI (k + 1 * (i : Nat))
theorem drop_mid {α : Type} {A B : List α} {i : Nat} {x : α} (h : A.length = i) : (A ++ x :: B).drop (i + 1) = B := by
  subst h; rw [List.drop_append]; simp
theorem c24 (l : List Int) (k : Int) (hk0 : 0 ≤ k) (hk : k + 1 * l.length ≤ 4611686018427387904) : Ctr Try.prog 24 [.one (.own 0), .one (.dat (.int .i64 k))] [.vec 1 true (l.map encI)] (.one (.dat (.int .i64 (k + 1 * l.length)))) [.vec 1 true (markInts k l.length)] := by
  refine Ctr.of_body mixed Try.func24 rfl (by kernel_rfl) (Nat.le_of_ble_eq_true rfl) (by simp [AV.Clean, AV.Clean1, Leaf.Clean, D.flat]) (by simp [AObj.Sep]) (by simp) ?_ (by simp [AV.Low, AV.Low1, Leaf.Low]) ?_
  · intro o ho
    have : o = 0 := by simpa using ho
    subst this
    simp [Objs, Compat, markInts]
  show wpA _ _ _ (FinQ _ _ _ _ _) _
  unfold markInts
  refine evl ?_
  refine LoopK_intro (fun n s => ∃ i : Nat, i ≤ l.length ∧ n = l.length - i ∧ s = mkSt [(5, .one (.dat (.int .i64 i))), (1, .one (.dat (.int .i64 (k + 1 * (i : Nat))))), (0, .one (.own 0))]
      [.vec 1 true ((List.range i).map (fun i => encI (k + 1 * (i : Nat))) ++ (l.drop i).map encI)]) l.length _
    (Ent.weak (ids := [0]) (by simp) rfl (by simp) (by simp [objsLe, envLe, find, St.obj, AObj.renF, AV.renF, AV.renF1, Leaf.renF, LowAll, AV.Low, AV.Low1, Leaf.Low, AObj.Low, Ptr.renF, Ptr.Low]) (by simp [objsLe, envLe, find, St.obj, AObj.renF, AV.renF, AV.renF1, Leaf.renF, LowAll, AV.Low, AV.Low1, Leaf.Low, AObj.Low, Ptr.renF, Ptr.Low]) (by simp [objsLe, envLe, find, St.obj, AObj.renF, AV.renF, AV.renF1, Leaf.renF, LowAll, AV.Low, AV.Low1, Leaf.Low, AObj.Low, Ptr.renF, Ptr.Low])) ⟨0, by omega, by omega, rfl⟩ ?_
  rintro n s ⟨i, hi, rfl, rfl⟩ K hK
  have hlen : ((List.range i).map (fun i => encI (k + 1 * (i : Nat))) ++ (l.drop i).map encI).length = l.length := by simp; omega
  rcases Nat.lt_or_ge i l.length with hlt | hge
  · have hA : ((List.range i).map (fun i => encI (k + 1 * (i : Nat)))).length = i := by simp
    have hd : decide ((i : Int) < l.length) = true := by simpa using hlt
    have hw := wrap_succ hlt (show l.length ≤ maxLen by unfold maxLen; omega)
    have hw1 : IntKind.i64.wrap (k + 1 * (i : Int) + 1) = k + 1 * (i : Int) + 1 := by rw [IntKind.wrap_i64]; omega
    rw [List.drop_eq_getElem_cons hlt, List.map_cons] at hlen ⊢
    generalize hAd : (List.range i).map (fun i => encI (k + 1 * (i : Nat))) = A at hA hlen ⊢
    have hl1 : ∀ x, (A ++ x :: (l.drop (i + 1)).map encI).length = l.length := fun x => by
      rw [List.length_append, List.length_cons] at hlen ⊢; exact hlen
    simp (maxSteps := 2000000) only [go_sem, ↓reduceIte, reduceCtorEq, Nat.reduceAdd, Nat.reduceMul, Nat.reduceSub, Nat.reduceLT, Nat.reduceLeDiff, Nat.reduceEqDiff, Int.reduceToNat, Int.reduceLT, Int.reduceLE, Int.reduceNeg, hl1, hd, set_mid hA, getD_mid hA, encI, hw, hw1, D.flat]
    repeat ((with_reducible show _ ∧ _); refine scA ?_)
    apply hK
    refine ⟨l.length - (i + 1), _, by omega, Ent.weak (ids := [0]) (by simp) rfl (by simp) ?_ ?_ (by simp [objsLe, envLe, find, St.obj, AObj.renF, AV.renF, AV.renF1, Leaf.renF, LowAll, AV.Low, AV.Low1, Leaf.Low, AObj.Low, Ptr.renF, Ptr.Low]), i + 1, by omega, rfl, rfl⟩
    · rw [List.range_succ, List.map_append, hAd]
      simp [objsLe, envLe, find, St.obj, AObj.renF, AV.renF, AV.renF1, Leaf.renF, LowAll, AV.Low, AV.Low1, Leaf.Low, AObj.Low, Ptr.renF, Ptr.Low]
      rfl
    · simp [objsLe, envLe, find, St.obj, AObj.renF, AV.renF, AV.renF1, Leaf.renF, LowAll, AV.Low, AV.Low1, Leaf.Low, AObj.Low, Ptr.renF, Ptr.Low]
      omega
  · have hge' : i = l.length := by omega
    subst hge'
    have hd : decide ((l.length : Int) < l.length) = false := by simp
    simp (maxSteps := 2000000) only [go_sem, ↓reduceIte, reduceCtorEq, Nat.reduceAdd, Nat.reduceMul, Nat.reduceSub, Nat.reduceLT, Nat.reduceLeDiff, Nat.reduceEqDiff, Int.reduceToNat, Int.reduceLT, Int.reduceLE, Int.reduceNeg, hlen, hd]
    apply hK
    refine evl ?_
    refine Fin.nt Try.results24 [0] ?_ ?_ ?_ <;> try trivial
    rw [List.drop_length, List.map_nil, List.append_nil]
    simp [objsLe, envLe, find, St.obj, AObj.renF, AV.renF, AV.renF1, Leaf.renF, LowAll, AV.Low, AV.Low1, Leaf.Low, AObj.Low, Ptr.renF, Ptr.Low]
theorem c25 (n : Nat) (k : Int) (hk0 : 0 ≤ k) (hk : k + 1 * n ≤ 4611686018427387904) : Ctr Try.prog 25 [.one (.dat (.sl 1 (markInts k n))), .one (.dat (.int .i64 k))] [] (.one (.dat (.int .i64 (k + 1 * n)))) [] := by
  refine Ctr.bd mixed Try.func25 rfl ?_
  unfold markInts
  refine evl ?_
  refine LoopK_intro (fun m s => ∃ i : Nat, i ≤ n ∧ m = n - i ∧ s = mkSt [(5, .one (.dat (.int .i64 i))), (1, .one (.dat (.int .i64 (k + 1 * (i : Nat))))), (0, .one (.dat (.sl 1 ((List.range n).map fun i => encI (k + 1 * (i : Nat))))))] []) n _
    (Ent.weak (ids := []) (by simp) rfl (by simp) (by simp [objsLe, envLe, find, St.obj, AObj.renF, AV.renF, AV.renF1, Leaf.renF, LowAll, AV.Low, AV.Low1, Leaf.Low, AObj.Low, Ptr.renF, Ptr.Low]) (by simp [objsLe, envLe, find, St.obj, AObj.renF, AV.renF, AV.renF1, Leaf.renF, LowAll, AV.Low, AV.Low1, Leaf.Low, AObj.Low, Ptr.renF, Ptr.Low]) (by simp [objsLe, envLe, find, St.obj, AObj.renF, AV.renF, AV.renF1, Leaf.renF, LowAll, AV.Low, AV.Low1, Leaf.Low, AObj.Low, Ptr.renF, Ptr.Low])) ⟨0, by omega, by omega, rfl⟩ ?_
  rintro m s ⟨i, hi, rfl, rfl⟩ K hK
  have hlen : ((List.range n).map fun i => encI (k + 1 * (i : Nat))).length = n := by simp
  rcases Nat.lt_or_ge i n with hlt | hge
  · have hd : decide ((i : Int) < n) = true := by simpa using hlt
    have hw := wrap_succ hlt (show n ≤ maxLen by unfold maxLen; omega)
    have hw1 : IntKind.i64.wrap (k + 1 * (i : Int) + 1) = k + 1 * (i : Int) + 1 := by rw [IntKind.wrap_i64]; omega
    have hg : ((List.range n).map fun i => encI (k + 1 * (i : Nat))).getD i [] = encI (k + 1 * (i : Nat)) := getD_range hlt
    generalize ((List.range n).map fun i => encI (k + 1 * (i : Nat))) = L at hlen hg hK ⊢
    simp (maxSteps := 2000000) only [go_sem, ↓reduceIte, reduceCtorEq, Nat.reduceAdd, Nat.reduceMul, Nat.reduceSub, Nat.reduceLT, Nat.reduceLeDiff, Nat.reduceEqDiff, Int.reduceToNat, Int.reduceLT, Int.reduceLE, Int.reduceNeg, hlen, hd, hg, encI, hw, hw1]
    repeat ((with_reducible show _ ∧ _); refine scA ?_)
    apply hK
    refine ⟨n - (i + 1), _, by omega, Ent.weak (ids := []) (by simp) rfl (by simp) (by simp [objsLe, envLe, find, St.obj, AObj.renF, AV.renF, AV.renF1, Leaf.renF, LowAll, AV.Low, AV.Low1, Leaf.Low, AObj.Low, Ptr.renF, Ptr.Low]) (by simp [objsLe, envLe, find, St.obj, AObj.renF, AV.renF, AV.renF1, Leaf.renF, LowAll, AV.Low, AV.Low1, Leaf.Low, AObj.Low, Ptr.renF, Ptr.Low]; omega) (by simp [objsLe, envLe, find, St.obj, AObj.renF, AV.renF, AV.renF1, Leaf.renF, LowAll, AV.Low, AV.Low1, Leaf.Low, AObj.Low, Ptr.renF, Ptr.Low]), i + 1, by omega, rfl, rfl⟩
  · have hge' : i = n := by omega
    subst hge'
    have hd : decide ((i : Int) < i) = false := by simp
    simp (maxSteps := 2000000) only [go_sem, ↓reduceIte, reduceCtorEq, Nat.reduceAdd, Nat.reduceMul, Nat.reduceSub, Nat.reduceLT, Nat.reduceLeDiff, Nat.reduceEqDiff, Int.reduceToNat, Int.reduceLT, Int.reduceLE, Int.reduceNeg, List.length_range, hd]
    apply hK
    refine evl ?_
    refine Fin.nt Try.results25 [] ?_ ?_ ?_ <;> try trivial
theorem c24_v (l : List Int) (k : Int) (hk0 : 0 ≤ k) (hk : k + 1 * l.length ≤ 4611686018427387904) : Ctr Try.prog 24 [.one (.own 0), .one (.dat (.int .i64 k))] [.vec 1 true (l.map encI)] (.one (.dat (.int .i64 (k + 1 * l.length)))) [.dead] := Ctr.drop (c24 l k hk0 hk) rfl
theorem c24_g (l : List Int) (k : Int) (hk0 : 0 ≤ k) (hk : k + 1 * l.length ≤ 4611686018427387904) : Ctr Try.prog 24 [.one (.own 0), .one (.dat (.int .i64 k))] [lent 1 (l.map encI)] (.one (.dat (.int .i64 (k + 1 * l.length)))) [.dead] := by
  cases l with
  | cons x l => exact c24_v (x :: l) k hk0 hk
  | nil =>
    show Ctr Try.prog 24 [.one (.own 0), .one (.dat (.int .i64 k))] [.frz 1 []] (.one (.dat (.int .i64 (k + 1 * ((0 : Nat) : Int))))) [.dead]
    rw [show k + 1 * ((0 : Nat) : Int) = k by omega]
    refine Ctr.bg mixed Try.func24 rfl ?_
    refine evl ?_
    refine LoopK_intro (fun zn zs => zn = 0 ∧ zs = mkSt [(5, .one (.dat (.int .i64 0))), (1, .one (.dat (.int .i64 k))), (0, .one (.own 0))] [.frz 1 []]) 0 _ (Ent.wk [0]) ⟨rfl, rfl⟩ ?_
    rintro zn zs ⟨rfl, rfl⟩ K hK
    have hd0 : decide ((0 : Int) < ((0 : Nat) : Int)) = false := rfl
    simp (maxSteps := 2000000) only [go_sem, ↓reduceIte, reduceCtorEq, Nat.reduceAdd, Nat.reduceMul, Nat.reduceSub, Nat.reduceLT, Nat.reduceLeDiff, Nat.reduceEqDiff, Int.reduceToNat, Int.reduceLT, Int.reduceLE, Int.reduceNeg, hd0]
    apply hK
    refine evl ?_
    refine Fin.nt Try.results24 [0] ?_ ?_ ?_ <;> try trivial
    all_goals simp [objsLe, envLe, find, St.obj, AObj.renF, AV.renF, AV.renF1, Leaf.renF, LowAll, AV.Low, AV.Low1, Leaf.Low, AObj.Low, Ptr.renF, Ptr.Low]
def Heap.sok (x : Heap) : Prop := x.Bytes.length ≤ 1048576 ∧ x.Class.length ≤ 1048576 ∧ True
theorem Heap.sok_of {x : Heap} (h : sizHeap x ≤ 1048576) : x.sok := by
  unfold sizHeap at h
  exact ⟨by omega, by omega, trivial⟩
def mcHeap (x : Heap) : Nat := 1 * x.Bytes.length + 1 * x.Class.length
theorem mcHeap_le (x : Heap) : mcHeap x ≤ 32 * sizHeap x := by
  unfold mcHeap sizHeap
  omega
theorem c117 (x : Heap) (hx : x.sok) (k : Int) (hk0 : 0 ≤ k) (hk : k + (mcHeap x : Int) ≤ 4611686018427387904) : Ctr Try.prog 117 [.agg [.own 0, .own 1], .one (.dat (.int .i64 k))] [.vec 1 true (x.Bytes.map encI), .vec 1 true (x.Class.map encI)] (.one (.dat (.int .i64 (k + (mcHeap x : Int))))) [.dead, .dead] := by
  have hmc : mcHeap x = 1 * x.Bytes.length + 1 * x.Class.length := rfl
  obtain ⟨q0, q1, _⟩ := hx
  refine Ctr.bg mixed Try.func117 rfl ?_
  refine evl ?_
  repeat ((with_reducible show _ ∧ _); refine scA ?_)
  refine CallK_os [0] e24 (by simp [osOk, St.obj, find]) (c24_v x.Bytes (k) (by omega) (by omega)) rfl ?_
  refine evl ?_
  repeat ((with_reducible show _ ∧ _); refine scA ?_)
  refine CallK_os [1] e24 (by simp [osOk, St.obj, find]) (c24_v x.Class ((k + 1 * (x.Bytes.length : Int))) (by omega) (by omega)) rfl ?_
  refine evl ?_
  rw [show ((k + 1 * (x.Bytes.length : Int)) + 1 * (x.Class.length : Int)) = k + (mcHeap x : Int) by omega]
  refine Fin.nt Try.results117 [0, 1] ?_ ?_ ?_ <;> try trivial
  all_goals simp [objsLe, envLe, find, St.obj, AObj.renF, AV.renF, AV.renF1, Leaf.renF, LowAll, AV.Low, AV.Low1, Leaf.Low, AObj.Low, Ptr.renF, Ptr.Low]
def SList.sok (x : SList) : Prop := x.Slots.length ≤ 1048576 ∧ True
theorem SList.sok_of {x : SList} (h : sizSList x ≤ 1048576) : x.sok := by
  unfold sizSList at h
  exact ⟨by omega, trivial⟩
def mcSList (x : SList) : Nat := 1 * x.Slots.length
theorem mcSList_le (x : SList) : mcSList x ≤ 32 * sizSList x := by
  unfold mcSList sizSList
  omega
def cntSList (x : SList) : Nat := 1 * x.Slots.length
def cntSListS (l : List SList) : Nat := (l.map cntSList).sum
theorem cntSListS_cons (x : SList) (l : List SList) : cntSListS (x :: l) = cntSList x + cntSListS l := by simp [cntSListS]
theorem cntSList_le (x : SList) : cntSList x ≤ 32 * (1 + sizSList x) := by
  unfold cntSList sizSList
  omega
theorem cntSListS_le (l : List SList) : cntSListS l ≤ 32 * sizSListS l := by
  unfold sizSListS
  induction l with
  | nil => simp [cntSListS]
  | cons x l ih =>
    have := cntSList_le x
    rw [cntSListS_cons, List.length_cons, List.map_cons, List.sum_cons]
    omega
theorem c142_v (l : List SList) (hl : l.length ≤ 1048576) (hq : ∀ x ∈ l, x.sok) (k : Int) (hk0 : 0 ≤ k) (hk : k + (cntSListS l : Int) ≤ 4611686018427387904) : Ctr Try.prog 142 [.one (.own 0), .one (.dat (.int .i64 k))] [.vec 1 true (l.map encSList)] (.one (.dat (.int .i64 (k + (cntSListS l : Int))))) [.dead] := by
  refine Ctr.bg mixed Try.func142 rfl ?_
  refine evl ?_
  refine LoopK_intro (fun zn zs => ∃ (i : Nat) (R : List (List D)) (kk : Int), i ≤ l.length ∧ zn = l.length - i ∧ (R.length = l.length ∧ R.drop i = (l.drop i).map encSList ∧ 0 ≤ kk ∧ kk + (cntSListS (l.drop i) : Int) = k + (cntSListS l : Int)) ∧ zs = mkSt [(5, .one (.dat (.int .i64 i))), (1, .one (.dat (.int .i64 kk))), (0, .one (.own 0))] [.vec 1 true R]) l.length _
    (Ent.wk [0]) ⟨0, l.map encSList, k, by omega, by omega, ⟨by simp, rfl, hk0, rfl⟩, rfl⟩ ?_
  rintro zn zs ⟨i, R, kk, hi, rfl, ⟨hR1, hR2, hk1, hk2⟩, rfl⟩ K hK
  rcases Nat.lt_or_ge i l.length with hlt | hge
  · have hd : decide ((i : Int) < ((l.length : Nat) : Int)) = true := decide_eq_true (by omega)
    have hw := wrap_succ hlt (show l.length ≤ maxLen by unfold maxLen; omega)
    have hqx := hq l[i] (List.getElem_mem hlt)
    rw [List.drop_eq_getElem_cons hlt] at hk2 hR2
    rw [List.map_cons] at hR2
    generalize l[i] = x at hk2 hR2 hqx
    obtain ⟨q0, _⟩ := hqx
    rw [cntSListS_cons] at hk2
    have hcx : cntSList x = 1 * x.Slots.length := rfl
    have hA : (R.take i).length = i := by rw [List.length_take]; omega
    have hR : R = R.take i ++ encSList x :: (l.drop (i + 1)).map encSList := by rw [← hR2, List.take_append_drop]
    generalize hB : (l.drop (i + 1)).map encSList = B at hR
    generalize R.take i = A at hA hR
    subst hR
    have hl1 : ∀ y, (A ++ y :: B).length = l.length := fun y => by rw [List.length_append, List.length_cons] at hR1 ⊢; exact hR1
    clear hR2
    simp (maxSteps := 2000000) only [go_sem, ↓reduceIte, reduceCtorEq, Nat.reduceAdd, Nat.reduceMul, Nat.reduceSub, Nat.reduceLT, Nat.reduceLeDiff, Nat.reduceEqDiff, Int.reduceToNat, Int.reduceLT, Int.reduceLE, Int.reduceNeg, hl1, hd, set_mid hA, getD_mid hA, encSList, hw, D.flat]
    repeat ((with_reducible show _ ∧ _); refine scA ?_)
    intro v0
    try (simp (maxSteps := 2000000) only [go_sem, ↓reduceIte, reduceCtorEq, Nat.reduceAdd, Nat.reduceMul, Nat.reduceSub, Nat.reduceLT, Nat.reduceLeDiff, Nat.reduceEqDiff, Int.reduceToNat, Int.reduceLT, Int.reduceLE, Int.reduceNeg, hl1, hd, set_mid hA, getD_mid hA, encSList, hw, D.flat])
    repeat ((with_reducible show _ ∧ _); refine scA ?_)
    refine CallK_os [1] e24 (by simp [osOk, St.obj, find]) (c24_g x.Slots (kk) (by omega) (by omega)) rfl ?_
    simp (maxSteps := 2000000) only [go_sem, ↓reduceIte, reduceCtorEq, Nat.reduceAdd, Nat.reduceMul, Nat.reduceSub, Nat.reduceLT, Nat.reduceLeDiff, Nat.reduceEqDiff, Int.reduceToNat, Int.reduceLT, Int.reduceLE, Int.reduceNeg, hl1, hd, set_mid hA, getD_mid hA, encSList, hw, D.flat]
    repeat ((with_reducible show _ ∧ _); refine scA ?_)
    apply hK
    refine ⟨l.length - (i + 1), _, by omega, Ent.wk [0] (h4 := objsLe_one (Nat.zero_lt_succ _) rfl), i + 1, _, (kk + 1 * (x.Slots.length : Int)), by omega, rfl, ⟨hl1 _, ?_, by omega, by omega⟩, rfl⟩
    rw [drop_mid hA, hB]
  · have hge' : i = l.length := by omega
    subst hge'
    rw [List.drop_length] at hk2
    have hkk : kk = k + (cntSListS l : Int) := by rw [← hk2]; simp [cntSListS]
    have hd : decide (((l.length : Nat) : Int) < ((l.length : Nat) : Int)) = false := by simp
    simp (maxSteps := 2000000) only [go_sem, ↓reduceIte, reduceCtorEq, Nat.reduceAdd, Nat.reduceMul, Nat.reduceSub, Nat.reduceLT, Nat.reduceLeDiff, Nat.reduceEqDiff, Int.reduceToNat, Int.reduceLT, Int.reduceLE, Int.reduceNeg, hR1, hd]
    apply hK
    refine evl ?_
    rw [hkk]
    refine Fin.nt Try.results142 [0] ?_ ?_ ?_ <;> try trivial
    all_goals simp [objsLe, envLe, find, St.obj, AObj.renF, AV.renF, AV.renF1, Leaf.renF, LowAll, AV.Low, AV.Low1, Leaf.Low, AObj.Low, Ptr.renF, Ptr.Low]
theorem c142_g (l : List SList) (hl : l.length ≤ 1048576) (hq : ∀ x ∈ l, x.sok) (k : Int) (hk0 : 0 ≤ k) (hk : k + (cntSListS l : Int) ≤ 4611686018427387904) : Ctr Try.prog 142 [.one (.own 0), .one (.dat (.int .i64 k))] [lent 1 (l.map encSList)] (.one (.dat (.int .i64 (k + (cntSListS l : Int))))) [.dead] := by
  cases l with
  | cons x l => exact c142_v (x :: l) hl hq k hk0 hk
  | nil =>
    show Ctr Try.prog 142 [.one (.own 0), .one (.dat (.int .i64 k))] [.frz 1 []] (.one (.dat (.int .i64 (k + (cntSListS [] : Int))))) [.dead]
    rw [show k + (cntSListS [] : Int) = k by simp [cntSListS]]
    refine Ctr.bg mixed Try.func142 rfl ?_
    refine evl ?_
    refine LoopK_intro (fun zn zs => zn = 0 ∧ zs = mkSt [(5, .one (.dat (.int .i64 0))), (1, .one (.dat (.int .i64 k))), (0, .one (.own 0))] [.frz 1 []]) 0 _ (Ent.wk [0]) ⟨rfl, rfl⟩ ?_
    rintro zn zs ⟨rfl, rfl⟩ K hK
    have hd0 : decide ((0 : Int) < ((0 : Nat) : Int)) = false := rfl
    simp (maxSteps := 2000000) only [go_sem, ↓reduceIte, reduceCtorEq, Nat.reduceAdd, Nat.reduceMul, Nat.reduceSub, Nat.reduceLT, Nat.reduceLeDiff, Nat.reduceEqDiff, Int.reduceToNat, Int.reduceLT, Int.reduceLE, Int.reduceNeg, hd0]
    apply hK
    refine evl ?_
    refine Fin.nt Try.results142 [0] ?_ ?_ ?_ <;> try trivial
    all_goals simp [objsLe, envLe, find, St.obj, AObj.renF, AV.renF, AV.renF1, Leaf.renF, LowAll, AV.Low, AV.Low1, Leaf.Low, AObj.Low, Ptr.renF, Ptr.Low]
def Lists.sok (x : Lists) : Prop := x.Global.length ≤ 1048576 ∧ (∀ y ∈ x.Global, y.sok) ∧ x.Own.length ≤ 1048576 ∧ (∀ y ∈ x.Own, y.sok) ∧ True
theorem Lists.sok_of {x : Lists} (h : sizLists x ≤ 1048576) : x.sok := by
  unfold sizLists at h
  unfold sizSListS at h
  exact ⟨by omega, fun y hy => SList.sok_of (by have := sum_mem sizSList hy; omega), by omega, fun y hy => SList.sok_of (by have := sum_mem sizSList hy; omega), trivial⟩
def mcLists (x : Lists) : Nat := cntSListS x.Global + cntSListS x.Own
theorem mcLists_le (x : Lists) : mcLists x ≤ 32 * sizLists x := by
  have := cntSListS_le x.Global
  have := cntSListS_le x.Own
  unfold mcLists sizLists
  omega
theorem c118 (x : Lists) (hx : x.sok) (k : Int) (hk0 : 0 ≤ k) (hk : k + (mcLists x : Int) ≤ 4611686018427387904) : Ctr Try.prog 118 [.agg [.own 0, .own 1], .one (.dat (.int .i64 k))] [.vec 1 true (x.Global.map encSList), .vec 1 true (x.Own.map encSList)] (.one (.dat (.int .i64 (k + (mcLists x : Int))))) [.dead, .dead] := by
  have hmc : mcLists x = cntSListS x.Global + cntSListS x.Own := rfl
  obtain ⟨q0, q1, q2, q3, _⟩ := hx
  refine Ctr.bg mixed Try.func118 rfl ?_
  refine evl ?_
  repeat ((with_reducible show _ ∧ _); refine scA ?_)
  refine CallK_os [0] e142 (by simp [osOk, St.obj, find]) (c142_v x.Global q0 q1 (k) (by omega) (by omega)) rfl ?_
  refine evl ?_
  repeat ((with_reducible show _ ∧ _); refine scA ?_)
  refine CallK_os [1] e142 (by simp [osOk, St.obj, find]) (c142_v x.Own q2 q3 ((k + (cntSListS x.Global : Int))) (by omega) (by omega)) rfl ?_
  refine evl ?_
  rw [show ((k + (cntSListS x.Global : Int)) + (cntSListS x.Own : Int)) = k + (mcLists x : Int) by omega]
  refine Fin.nt Try.results118 [0, 1] ?_ ?_ ?_ <;> try trivial
  all_goals simp [objsLe, envLe, find, St.obj, AObj.renF, AV.renF, AV.renF1, Leaf.renF, LowAll, AV.Low, AV.Low1, Leaf.Low, AObj.Low, Ptr.renF, Ptr.Low]
def Mem.sok (x : Mem) : Prop := x.Heap.sok ∧ x.Lists.sok ∧ True
theorem Mem.sok_of {x : Mem} (h : sizMem x ≤ 1048576) : x.sok := by
  unfold sizMem at h
  exact ⟨Heap.sok_of (by omega), Lists.sok_of (by omega), trivial⟩
def mcMem (x : Mem) : Nat := mcHeap x.Heap + mcLists x.Lists
theorem mcMem_le (x : Mem) : mcMem x ≤ 32 * sizMem x := by
  have := mcHeap_le x.Heap
  have := mcLists_le x.Lists
  unfold mcMem sizMem
  omega
theorem c84 (x : Mem) (hx : x.sok) (k : Int) (hk0 : 0 ≤ k) (hk : k + (mcMem x : Int) ≤ 4611686018427387904) : Ctr Try.prog 84 [.agg [.own 0, .own 1, .own 2, .own 3], .one (.dat (.int .i64 k))] [.vec 1 true (x.Heap.Bytes.map encI), .vec 1 true (x.Heap.Class.map encI), .vec 1 true (x.Lists.Global.map encSList), .vec 1 true (x.Lists.Own.map encSList)] (.one (.dat (.int .i64 (k + (mcMem x : Int))))) [.dead, .dead, .dead, .dead] := by
  have hmc : mcMem x = mcHeap x.Heap + mcLists x.Lists := rfl
  obtain ⟨q0, q1, _⟩ := hx
  refine Ctr.bg mixed Try.func84 rfl ?_
  refine evl ?_
  repeat ((with_reducible show _ ∧ _); refine scA ?_)
  refine CallK_os [0, 1] e117 (by simp [osOk, St.obj, find]) (c117 x.Heap q0 (k) (by omega) (by omega)) rfl ?_
  refine evl ?_
  repeat ((with_reducible show _ ∧ _); refine scA ?_)
  refine CallK_os [2, 3] e118 (by simp [osOk, St.obj, find]) (c118 x.Lists q1 ((k + (mcHeap x.Heap : Int))) (by omega) (by omega)) rfl ?_
  refine evl ?_
  rw [show ((k + (mcHeap x.Heap : Int)) + (mcLists x.Lists : Int)) = k + (mcMem x : Int) by omega]
  refine Fin.nt Try.results84 [0, 1, 2, 3] ?_ ?_ ?_ <;> try trivial
  all_goals simp [objsLe, envLe, find, St.obj, AObj.renF, AV.renF, AV.renF1, Leaf.renF, LowAll, AV.Low, AV.Low1, Leaf.Low, AObj.Low, Ptr.renF, Ptr.Low]
theorem c119_v (l : List Pin) (k : Int) (hk0 : 0 ≤ k) (hk : k + 4 * l.length ≤ 4611686018427387904) : Ctr Try.prog 119 [.one (.own 0), .one (.dat (.int .i64 k))] [.vec 4 true (l.map encPin)] (.one (.dat (.int .i64 (k + 4 * l.length)))) [.dead] := Ctr.drop (c119 l k hk0 hk) rfl
theorem c119_g (l : List Pin) (k : Int) (hk0 : 0 ≤ k) (hk : k + 4 * l.length ≤ 4611686018427387904) : Ctr Try.prog 119 [.one (.own 0), .one (.dat (.int .i64 k))] [lent 4 (l.map encPin)] (.one (.dat (.int .i64 (k + 4 * l.length)))) [.dead] := by
  cases l with
  | cons x l => exact c119_v (x :: l) k hk0 hk
  | nil =>
    show Ctr Try.prog 119 [.one (.own 0), .one (.dat (.int .i64 k))] [.frz 4 []] (.one (.dat (.int .i64 (k + 4 * ((0 : Nat) : Int))))) [.dead]
    rw [show k + 4 * ((0 : Nat) : Int) = k by omega]
    refine Ctr.bg mixed Try.func119 rfl ?_
    refine evl ?_
    refine LoopK_intro (fun zn zs => zn = 0 ∧ zs = mkSt [(5, .one (.dat (.int .i64 0))), (1, .one (.dat (.int .i64 k))), (0, .one (.own 0))] [.frz 4 []]) 0 _ (Ent.wk [0]) ⟨rfl, rfl⟩ ?_
    rintro zn zs ⟨rfl, rfl⟩ K hK
    have hd0 : decide ((0 : Int) < ((0 : Nat) : Int)) = false := rfl
    simp (maxSteps := 2000000) only [go_sem, ↓reduceIte, reduceCtorEq, Nat.reduceAdd, Nat.reduceMul, Nat.reduceSub, Nat.reduceLT, Nat.reduceLeDiff, Nat.reduceEqDiff, Int.reduceToNat, Int.reduceLT, Int.reduceLE, Int.reduceNeg, hd0]
    apply hK
    refine evl ?_
    refine Fin.nt Try.results119 [0] ?_ ?_ ?_ <;> try trivial
    all_goals simp [objsLe, envLe, find, St.obj, AObj.renF, AV.renF, AV.renF1, Leaf.renF, LowAll, AV.Low, AV.Low1, Leaf.Low, AObj.Low, Ptr.renF, Ptr.Low]
def Clock.sok (x : Clock) : Prop := x.Pins.length ≤ 1048576 ∧ True
theorem Clock.sok_of {x : Clock} (h : sizClock x ≤ 1048576) : x.sok := by
  unfold sizClock at h
  exact ⟨by omega, trivial⟩
def mcClock (x : Clock) : Nat := 4 * x.Pins.length
theorem mcClock_le (x : Clock) : mcClock x ≤ 32 * sizClock x := by
  unfold mcClock sizClock
  omega
theorem c85 (x : Clock) (hx : x.sok) (k : Int) (hk0 : 0 ≤ k) (hk : k + (mcClock x : Int) ≤ 4611686018427387904) : Ctr Try.prog 85 [.agg [.dat (.int .i64 x.Epoch), .own 0], .one (.dat (.int .i64 k))] [.vec 4 true (x.Pins.map encPin)] (.one (.dat (.int .i64 (k + (mcClock x : Int))))) [.dead] := by
  have hmc : mcClock x = 4 * x.Pins.length := rfl
  obtain ⟨q0, _⟩ := hx
  refine Ctr.bg mixed Try.func85 rfl ?_
  refine evl ?_
  repeat ((with_reducible show _ ∧ _); refine scA ?_)
  refine CallK_os [0] e119 (by simp [osOk, St.obj, find]) (c119_v x.Pins (k) (by omega) (by omega)) rfl ?_
  refine evl ?_
  rw [show (k + 4 * (x.Pins.length : Int)) = k + (mcClock x : Int) by omega]
  refine Fin.nt Try.results85 [0] ?_ ?_ ?_ <;> try trivial
  all_goals simp [objsLe, envLe, find, St.obj, AObj.renF, AV.renF, AV.renF1, Leaf.renF, LowAll, AV.Low, AV.Low1, Leaf.Low, AObj.Low, Ptr.renF, Ptr.Low]
theorem c120_v (l : List LRow) (k : Int) (hk0 : 0 ≤ k) (hk : k + 2 * l.length ≤ 4611686018427387904) : Ctr Try.prog 120 [.one (.own 0), .one (.dat (.int .i64 k))] [.vec 2 true (l.map encLRow)] (.one (.dat (.int .i64 (k + 2 * l.length)))) [.dead] := Ctr.drop (c120 l k hk0 hk) rfl
theorem c120_g (l : List LRow) (k : Int) (hk0 : 0 ≤ k) (hk : k + 2 * l.length ≤ 4611686018427387904) : Ctr Try.prog 120 [.one (.own 0), .one (.dat (.int .i64 k))] [lent 2 (l.map encLRow)] (.one (.dat (.int .i64 (k + 2 * l.length)))) [.dead] := by
  cases l with
  | cons x l => exact c120_v (x :: l) k hk0 hk
  | nil =>
    show Ctr Try.prog 120 [.one (.own 0), .one (.dat (.int .i64 k))] [.frz 2 []] (.one (.dat (.int .i64 (k + 2 * ((0 : Nat) : Int))))) [.dead]
    rw [show k + 2 * ((0 : Nat) : Int) = k by omega]
    refine Ctr.bg mixed Try.func120 rfl ?_
    refine evl ?_
    refine LoopK_intro (fun zn zs => zn = 0 ∧ zs = mkSt [(5, .one (.dat (.int .i64 0))), (1, .one (.dat (.int .i64 k))), (0, .one (.own 0))] [.frz 2 []]) 0 _ (Ent.wk [0]) ⟨rfl, rfl⟩ ?_
    rintro zn zs ⟨rfl, rfl⟩ K hK
    have hd0 : decide ((0 : Int) < ((0 : Nat) : Int)) = false := rfl
    simp (maxSteps := 2000000) only [go_sem, ↓reduceIte, reduceCtorEq, Nat.reduceAdd, Nat.reduceMul, Nat.reduceSub, Nat.reduceLT, Nat.reduceLeDiff, Nat.reduceEqDiff, Int.reduceToNat, Int.reduceLT, Int.reduceLE, Int.reduceNeg, hd0]
    apply hK
    refine evl ?_
    refine Fin.nt Try.results120 [0] ?_ ?_ ?_ <;> try trivial
    all_goals simp [objsLe, envLe, find, St.obj, AObj.renF, AV.renF, AV.renF1, Leaf.renF, LowAll, AV.Low, AV.Low1, Leaf.Low, AObj.Low, Ptr.renF, Ptr.Low]
def LList.sok (x : LList) : Prop := x.Rows.length ≤ 1048576 ∧ True
theorem LList.sok_of {x : LList} (h : sizLList x ≤ 1048576) : x.sok := by
  unfold sizLList at h
  exact ⟨by omega, trivial⟩
def mcLList (x : LList) : Nat := 2 * x.Rows.length
theorem mcLList_le (x : LList) : mcLList x ≤ 32 * sizLList x := by
  unfold mcLList sizLList
  omega
def cntLList (x : LList) : Nat := 2 * x.Rows.length
def cntLListS (l : List LList) : Nat := (l.map cntLList).sum
theorem cntLListS_cons (x : LList) (l : List LList) : cntLListS (x :: l) = cntLList x + cntLListS l := by simp [cntLListS]
theorem cntLList_le (x : LList) : cntLList x ≤ 32 * (1 + sizLList x) := by
  unfold cntLList sizLList
  omega
theorem cntLListS_le (l : List LList) : cntLListS l ≤ 32 * sizLListS l := by
  unfold sizLListS
  induction l with
  | nil => simp [cntLListS]
  | cons x l ih =>
    have := cntLList_le x
    rw [cntLListS_cons, List.length_cons, List.map_cons, List.sum_cons]
    omega
theorem c86_v (l : List LList) (hl : l.length ≤ 1048576) (hq : ∀ x ∈ l, x.sok) (k : Int) (hk0 : 0 ≤ k) (hk : k + (cntLListS l : Int) ≤ 4611686018427387904) : Ctr Try.prog 86 [.one (.own 0), .one (.dat (.int .i64 k))] [.vec 1 true (l.map encLList)] (.one (.dat (.int .i64 (k + (cntLListS l : Int))))) [.dead] := by
  refine Ctr.bg mixed Try.func86 rfl ?_
  refine evl ?_
  refine LoopK_intro (fun zn zs => ∃ (i : Nat) (R : List (List D)) (kk : Int), i ≤ l.length ∧ zn = l.length - i ∧ (R.length = l.length ∧ R.drop i = (l.drop i).map encLList ∧ 0 ≤ kk ∧ kk + (cntLListS (l.drop i) : Int) = k + (cntLListS l : Int)) ∧ zs = mkSt [(5, .one (.dat (.int .i64 i))), (1, .one (.dat (.int .i64 kk))), (0, .one (.own 0))] [.vec 1 true R]) l.length _
    (Ent.wk [0]) ⟨0, l.map encLList, k, by omega, by omega, ⟨by simp, rfl, hk0, rfl⟩, rfl⟩ ?_
  rintro zn zs ⟨i, R, kk, hi, rfl, ⟨hR1, hR2, hk1, hk2⟩, rfl⟩ K hK
  rcases Nat.lt_or_ge i l.length with hlt | hge
  · have hd : decide ((i : Int) < ((l.length : Nat) : Int)) = true := decide_eq_true (by omega)
    have hw := wrap_succ hlt (show l.length ≤ maxLen by unfold maxLen; omega)
    have hqx := hq l[i] (List.getElem_mem hlt)
    rw [List.drop_eq_getElem_cons hlt] at hk2 hR2
    rw [List.map_cons] at hR2
    generalize l[i] = x at hk2 hR2 hqx
    obtain ⟨q0, _⟩ := hqx
    rw [cntLListS_cons] at hk2
    have hcx : cntLList x = 2 * x.Rows.length := rfl
    have hA : (R.take i).length = i := by rw [List.length_take]; omega
    have hR : R = R.take i ++ encLList x :: (l.drop (i + 1)).map encLList := by rw [← hR2, List.take_append_drop]
    generalize hB : (l.drop (i + 1)).map encLList = B at hR
    generalize R.take i = A at hA hR
    subst hR
    have hl1 : ∀ y, (A ++ y :: B).length = l.length := fun y => by rw [List.length_append, List.length_cons] at hR1 ⊢; exact hR1
    clear hR2
    simp (maxSteps := 2000000) only [go_sem, ↓reduceIte, reduceCtorEq, Nat.reduceAdd, Nat.reduceMul, Nat.reduceSub, Nat.reduceLT, Nat.reduceLeDiff, Nat.reduceEqDiff, Int.reduceToNat, Int.reduceLT, Int.reduceLE, Int.reduceNeg, hl1, hd, set_mid hA, getD_mid hA, encLList, hw, D.flat]
    repeat ((with_reducible show _ ∧ _); refine scA ?_)
    intro v0
    try (simp (maxSteps := 2000000) only [go_sem, ↓reduceIte, reduceCtorEq, Nat.reduceAdd, Nat.reduceMul, Nat.reduceSub, Nat.reduceLT, Nat.reduceLeDiff, Nat.reduceEqDiff, Int.reduceToNat, Int.reduceLT, Int.reduceLE, Int.reduceNeg, hl1, hd, set_mid hA, getD_mid hA, encLList, hw, D.flat])
    repeat ((with_reducible show _ ∧ _); refine scA ?_)
    refine CallK_os [1] e120 (by simp [osOk, St.obj, find]) (c120_g x.Rows (kk) (by omega) (by omega)) rfl ?_
    simp (maxSteps := 2000000) only [go_sem, ↓reduceIte, reduceCtorEq, Nat.reduceAdd, Nat.reduceMul, Nat.reduceSub, Nat.reduceLT, Nat.reduceLeDiff, Nat.reduceEqDiff, Int.reduceToNat, Int.reduceLT, Int.reduceLE, Int.reduceNeg, hl1, hd, set_mid hA, getD_mid hA, encLList, hw, D.flat]
    repeat ((with_reducible show _ ∧ _); refine scA ?_)
    apply hK
    refine ⟨l.length - (i + 1), _, by omega, Ent.wk [0] (h4 := objsLe_one (Nat.zero_lt_succ _) rfl), i + 1, _, (kk + 2 * (x.Rows.length : Int)), by omega, rfl, ⟨hl1 _, ?_, by omega, by omega⟩, rfl⟩
    rw [drop_mid hA, hB]
  · have hge' : i = l.length := by omega
    subst hge'
    rw [List.drop_length] at hk2
    have hkk : kk = k + (cntLListS l : Int) := by rw [← hk2]; simp [cntLListS]
    have hd : decide (((l.length : Nat) : Int) < ((l.length : Nat) : Int)) = false := by simp
    simp (maxSteps := 2000000) only [go_sem, ↓reduceIte, reduceCtorEq, Nat.reduceAdd, Nat.reduceMul, Nat.reduceSub, Nat.reduceLT, Nat.reduceLeDiff, Nat.reduceEqDiff, Int.reduceToNat, Int.reduceLT, Int.reduceLE, Int.reduceNeg, hR1, hd]
    apply hK
    refine evl ?_
    rw [hkk]
    refine Fin.nt Try.results86 [0] ?_ ?_ ?_ <;> try trivial
    all_goals simp [objsLe, envLe, find, St.obj, AObj.renF, AV.renF, AV.renF1, Leaf.renF, LowAll, AV.Low, AV.Low1, Leaf.Low, AObj.Low, Ptr.renF, Ptr.Low]
theorem c86_g (l : List LList) (hl : l.length ≤ 1048576) (hq : ∀ x ∈ l, x.sok) (k : Int) (hk0 : 0 ≤ k) (hk : k + (cntLListS l : Int) ≤ 4611686018427387904) : Ctr Try.prog 86 [.one (.own 0), .one (.dat (.int .i64 k))] [lent 1 (l.map encLList)] (.one (.dat (.int .i64 (k + (cntLListS l : Int))))) [.dead] := by
  cases l with
  | cons x l => exact c86_v (x :: l) hl hq k hk0 hk
  | nil =>
    show Ctr Try.prog 86 [.one (.own 0), .one (.dat (.int .i64 k))] [.frz 1 []] (.one (.dat (.int .i64 (k + (cntLListS [] : Int))))) [.dead]
    rw [show k + (cntLListS [] : Int) = k by simp [cntLListS]]
    refine Ctr.bg mixed Try.func86 rfl ?_
    refine evl ?_
    refine LoopK_intro (fun zn zs => zn = 0 ∧ zs = mkSt [(5, .one (.dat (.int .i64 0))), (1, .one (.dat (.int .i64 k))), (0, .one (.own 0))] [.frz 1 []]) 0 _ (Ent.wk [0]) ⟨rfl, rfl⟩ ?_
    rintro zn zs ⟨rfl, rfl⟩ K hK
    have hd0 : decide ((0 : Int) < ((0 : Nat) : Int)) = false := rfl
    simp (maxSteps := 2000000) only [go_sem, ↓reduceIte, reduceCtorEq, Nat.reduceAdd, Nat.reduceMul, Nat.reduceSub, Nat.reduceLT, Nat.reduceLeDiff, Nat.reduceEqDiff, Int.reduceToNat, Int.reduceLT, Int.reduceLE, Int.reduceNeg, hd0]
    apply hK
    refine evl ?_
    refine Fin.nt Try.results86 [0] ?_ ?_ ?_ <;> try trivial
    all_goals simp [objsLe, envLe, find, St.obj, AObj.renF, AV.renF, AV.renF1, Leaf.renF, LowAll, AV.Low, AV.Low1, Leaf.Low, AObj.Low, Ptr.renF, Ptr.Low]
def Base.sok (x : Base) : Prop := x.Mem.sok ∧ x.Clock.sok ∧ x.Limbo.length ≤ 1048576 ∧ (∀ y ∈ x.Limbo, y.sok) ∧ x.Haz.length ≤ 1048576 ∧ True
theorem Base.sok_of {x : Base} (h : sizBase x ≤ 1048576) : x.sok := by
  unfold sizBase at h
  unfold sizLListS at h
  exact ⟨Mem.sok_of (by omega), Clock.sok_of (by omega), by omega, fun y hy => LList.sok_of (by have := sum_mem sizLList hy; omega), by omega, trivial⟩
def mcBase (x : Base) : Nat := mcMem x.Mem + mcClock x.Clock + cntLListS x.Limbo + 1 * x.Haz.length
theorem mcBase_le (x : Base) : mcBase x ≤ 32 * sizBase x := by
  have := mcMem_le x.Mem
  have := mcClock_le x.Clock
  have := cntLListS_le x.Limbo
  unfold mcBase sizBase
  omega
theorem c50 (x : Base) (hx : x.sok) (k : Int) (hk0 : 0 ≤ k) (hk : k + (mcBase x : Int) ≤ 4611686018427387904) : Ctr Try.prog 50 [.agg [.own 0, .own 1, .own 2, .own 3, .dat (.int .i64 x.Clock.Epoch), .own 4, .own 5, .own 6], .one (.dat (.int .i64 k))] [.vec 1 true (x.Mem.Heap.Bytes.map encI), .vec 1 true (x.Mem.Heap.Class.map encI), .vec 1 true (x.Mem.Lists.Global.map encSList), .vec 1 true (x.Mem.Lists.Own.map encSList), .vec 4 true (x.Clock.Pins.map encPin), .vec 1 true (x.Limbo.map encLList), .vec 1 true (x.Haz.map encI)] (.one (.dat (.int .i64 (k + (mcBase x : Int))))) [.dead, .dead, .dead, .dead, .dead, .dead, .dead] := by
  have hmc : mcBase x = mcMem x.Mem + mcClock x.Clock + cntLListS x.Limbo + 1 * x.Haz.length := rfl
  obtain ⟨q0, q1, q2, q3, q4, _⟩ := hx
  refine Ctr.bg mixed Try.func50 rfl ?_
  refine evl ?_
  repeat ((with_reducible show _ ∧ _); refine scA ?_)
  refine CallK_os [0, 1, 2, 3] e84 (by simp [osOk, St.obj, find]) (c84 x.Mem q0 (k) (by omega) (by omega)) rfl ?_
  refine evl ?_
  repeat ((with_reducible show _ ∧ _); refine scA ?_)
  refine CallK_os [4] e85 (by simp [osOk, St.obj, find]) (c85 x.Clock q1 ((k + (mcMem x.Mem : Int))) (by omega) (by omega)) rfl ?_
  refine evl ?_
  repeat ((with_reducible show _ ∧ _); refine scA ?_)
  refine CallK_os [5] e86 (by simp [osOk, St.obj, find]) (c86_v x.Limbo q2 q3 (((k + (mcMem x.Mem : Int)) + (mcClock x.Clock : Int))) (by omega) (by omega)) rfl ?_
  refine evl ?_
  repeat ((with_reducible show _ ∧ _); refine scA ?_)
  refine CallK_os [6] e24 (by simp [osOk, St.obj, find]) (c24_v x.Haz ((((k + (mcMem x.Mem : Int)) + (mcClock x.Clock : Int)) + (cntLListS x.Limbo : Int))) (by omega) (by omega)) rfl ?_
  refine evl ?_
  rw [show ((((k + (mcMem x.Mem : Int)) + (mcClock x.Clock : Int)) + (cntLListS x.Limbo : Int)) + 1 * (x.Haz.length : Int)) = k + (mcBase x : Int) by omega]
  refine Fin.nt Try.results50 [0, 1, 2, 3, 4, 5, 6] ?_ ?_ ?_ <;> try trivial
  all_goals simp [objsLe, envLe, find, St.obj, AObj.renF, AV.renF, AV.renF1, Leaf.renF, LowAll, AV.Low, AV.Low1, Leaf.Low, AObj.Low, Ptr.renF, Ptr.Low]
theorem c87_v (l : List Op) (k : Int) (hk0 : 0 ≤ k) (hk : k + 4 * l.length ≤ 4611686018427387904) : Ctr Try.prog 87 [.one (.own 0), .one (.dat (.int .i64 k))] [.vec 4 true (l.map encOp)] (.one (.dat (.int .i64 (k + 4 * l.length)))) [.dead] := Ctr.drop (c87 l k hk0 hk) rfl
theorem c87_g (l : List Op) (k : Int) (hk0 : 0 ≤ k) (hk : k + 4 * l.length ≤ 4611686018427387904) : Ctr Try.prog 87 [.one (.own 0), .one (.dat (.int .i64 k))] [lent 4 (l.map encOp)] (.one (.dat (.int .i64 (k + 4 * l.length)))) [.dead] := by
  cases l with
  | cons x l => exact c87_v (x :: l) k hk0 hk
  | nil =>
    show Ctr Try.prog 87 [.one (.own 0), .one (.dat (.int .i64 k))] [.frz 4 []] (.one (.dat (.int .i64 (k + 4 * ((0 : Nat) : Int))))) [.dead]
    rw [show k + 4 * ((0 : Nat) : Int) = k by omega]
    refine Ctr.bg mixed Try.func87 rfl ?_
    refine evl ?_
    refine LoopK_intro (fun zn zs => zn = 0 ∧ zs = mkSt [(5, .one (.dat (.int .i64 0))), (1, .one (.dat (.int .i64 k))), (0, .one (.own 0))] [.frz 4 []]) 0 _ (Ent.wk [0]) ⟨rfl, rfl⟩ ?_
    rintro zn zs ⟨rfl, rfl⟩ K hK
    have hd0 : decide ((0 : Int) < ((0 : Nat) : Int)) = false := rfl
    simp (maxSteps := 2000000) only [go_sem, ↓reduceIte, reduceCtorEq, Nat.reduceAdd, Nat.reduceMul, Nat.reduceSub, Nat.reduceLT, Nat.reduceLeDiff, Nat.reduceEqDiff, Int.reduceToNat, Int.reduceLT, Int.reduceLE, Int.reduceNeg, hd0]
    apply hK
    refine evl ?_
    refine Fin.nt Try.results87 [0] ?_ ?_ ?_ <;> try trivial
    all_goals simp [objsLe, envLe, find, St.obj, AObj.renF, AV.renF, AV.renF1, Leaf.renF, LowAll, AV.Low, AV.Low1, Leaf.Low, AObj.Low, Ptr.renF, Ptr.Low]
def Queue.sok (x : Queue) : Prop := x.Ops.length ≤ 1048576 ∧ True
theorem Queue.sok_of {x : Queue} (h : sizQueue x ≤ 1048576) : x.sok := by
  unfold sizQueue at h
  exact ⟨by omega, trivial⟩
def mcQueue (x : Queue) : Nat := 4 * x.Ops.length
theorem mcQueue_le (x : Queue) : mcQueue x ≤ 32 * sizQueue x := by
  unfold mcQueue sizQueue
  omega
def cntQueue (x : Queue) : Nat := 4 * x.Ops.length
def cntQueueS (l : List Queue) : Nat := (l.map cntQueue).sum
theorem cntQueueS_cons (x : Queue) (l : List Queue) : cntQueueS (x :: l) = cntQueue x + cntQueueS l := by simp [cntQueueS]
theorem cntQueue_le (x : Queue) : cntQueue x ≤ 32 * (1 + sizQueue x) := by
  unfold cntQueue sizQueue
  omega
theorem cntQueueS_le (l : List Queue) : cntQueueS l ≤ 32 * sizQueueS l := by
  unfold sizQueueS
  induction l with
  | nil => simp [cntQueueS]
  | cons x l ih =>
    have := cntQueue_le x
    rw [cntQueueS_cons, List.length_cons, List.map_cons, List.sum_cons]
    omega
theorem c52_v (l : List Queue) (hl : l.length ≤ 1048576) (hq : ∀ x ∈ l, x.sok) (k : Int) (hk0 : 0 ≤ k) (hk : k + (cntQueueS l : Int) ≤ 4611686018427387904) : Ctr Try.prog 52 [.one (.own 0), .one (.dat (.int .i64 k))] [.vec 1 true (l.map encQueue)] (.one (.dat (.int .i64 (k + (cntQueueS l : Int))))) [.dead] := by
  refine Ctr.bg mixed Try.func52 rfl ?_
  refine evl ?_
  refine LoopK_intro (fun zn zs => ∃ (i : Nat) (R : List (List D)) (kk : Int), i ≤ l.length ∧ zn = l.length - i ∧ (R.length = l.length ∧ R.drop i = (l.drop i).map encQueue ∧ 0 ≤ kk ∧ kk + (cntQueueS (l.drop i) : Int) = k + (cntQueueS l : Int)) ∧ zs = mkSt [(5, .one (.dat (.int .i64 i))), (1, .one (.dat (.int .i64 kk))), (0, .one (.own 0))] [.vec 1 true R]) l.length _
    (Ent.wk [0]) ⟨0, l.map encQueue, k, by omega, by omega, ⟨by simp, rfl, hk0, rfl⟩, rfl⟩ ?_
  rintro zn zs ⟨i, R, kk, hi, rfl, ⟨hR1, hR2, hk1, hk2⟩, rfl⟩ K hK
  rcases Nat.lt_or_ge i l.length with hlt | hge
  · have hd : decide ((i : Int) < ((l.length : Nat) : Int)) = true := decide_eq_true (by omega)
    have hw := wrap_succ hlt (show l.length ≤ maxLen by unfold maxLen; omega)
    have hqx := hq l[i] (List.getElem_mem hlt)
    rw [List.drop_eq_getElem_cons hlt] at hk2 hR2
    rw [List.map_cons] at hR2
    generalize l[i] = x at hk2 hR2 hqx
    obtain ⟨q0, _⟩ := hqx
    rw [cntQueueS_cons] at hk2
    have hcx : cntQueue x = 4 * x.Ops.length := rfl
    have hA : (R.take i).length = i := by rw [List.length_take]; omega
    have hR : R = R.take i ++ encQueue x :: (l.drop (i + 1)).map encQueue := by rw [← hR2, List.take_append_drop]
    generalize hB : (l.drop (i + 1)).map encQueue = B at hR
    generalize R.take i = A at hA hR
    subst hR
    have hl1 : ∀ y, (A ++ y :: B).length = l.length := fun y => by rw [List.length_append, List.length_cons] at hR1 ⊢; exact hR1
    clear hR2
    simp (maxSteps := 2000000) only [go_sem, ↓reduceIte, reduceCtorEq, Nat.reduceAdd, Nat.reduceMul, Nat.reduceSub, Nat.reduceLT, Nat.reduceLeDiff, Nat.reduceEqDiff, Int.reduceToNat, Int.reduceLT, Int.reduceLE, Int.reduceNeg, hl1, hd, set_mid hA, getD_mid hA, encQueue, hw, D.flat]
    repeat ((with_reducible show _ ∧ _); refine scA ?_)
    intro v0
    try (simp (maxSteps := 2000000) only [go_sem, ↓reduceIte, reduceCtorEq, Nat.reduceAdd, Nat.reduceMul, Nat.reduceSub, Nat.reduceLT, Nat.reduceLeDiff, Nat.reduceEqDiff, Int.reduceToNat, Int.reduceLT, Int.reduceLE, Int.reduceNeg, hl1, hd, set_mid hA, getD_mid hA, encQueue, hw, D.flat])
    repeat ((with_reducible show _ ∧ _); refine scA ?_)
    refine CallK_os [1] e87 (by simp [osOk, St.obj, find]) (c87_g x.Ops (kk) (by omega) (by omega)) rfl ?_
    simp (maxSteps := 2000000) only [go_sem, ↓reduceIte, reduceCtorEq, Nat.reduceAdd, Nat.reduceMul, Nat.reduceSub, Nat.reduceLT, Nat.reduceLeDiff, Nat.reduceEqDiff, Int.reduceToNat, Int.reduceLT, Int.reduceLE, Int.reduceNeg, hl1, hd, set_mid hA, getD_mid hA, encQueue, hw, D.flat]
    repeat ((with_reducible show _ ∧ _); refine scA ?_)
    apply hK
    refine ⟨l.length - (i + 1), _, by omega, Ent.wk [0] (h4 := objsLe_one (Nat.zero_lt_succ _) rfl), i + 1, _, (kk + 4 * (x.Ops.length : Int)), by omega, rfl, ⟨hl1 _, ?_, by omega, by omega⟩, rfl⟩
    rw [drop_mid hA, hB]
  · have hge' : i = l.length := by omega
    subst hge'
    rw [List.drop_length] at hk2
    have hkk : kk = k + (cntQueueS l : Int) := by rw [← hk2]; simp [cntQueueS]
    have hd : decide (((l.length : Nat) : Int) < ((l.length : Nat) : Int)) = false := by simp
    simp (maxSteps := 2000000) only [go_sem, ↓reduceIte, reduceCtorEq, Nat.reduceAdd, Nat.reduceMul, Nat.reduceSub, Nat.reduceLT, Nat.reduceLeDiff, Nat.reduceEqDiff, Int.reduceToNat, Int.reduceLT, Int.reduceLE, Int.reduceNeg, hR1, hd]
    apply hK
    refine evl ?_
    rw [hkk]
    refine Fin.nt Try.results52 [0] ?_ ?_ ?_ <;> try trivial
    all_goals simp [objsLe, envLe, find, St.obj, AObj.renF, AV.renF, AV.renF1, Leaf.renF, LowAll, AV.Low, AV.Low1, Leaf.Low, AObj.Low, Ptr.renF, Ptr.Low]
theorem c52_g (l : List Queue) (hl : l.length ≤ 1048576) (hq : ∀ x ∈ l, x.sok) (k : Int) (hk0 : 0 ≤ k) (hk : k + (cntQueueS l : Int) ≤ 4611686018427387904) : Ctr Try.prog 52 [.one (.own 0), .one (.dat (.int .i64 k))] [lent 1 (l.map encQueue)] (.one (.dat (.int .i64 (k + (cntQueueS l : Int))))) [.dead] := by
  cases l with
  | cons x l => exact c52_v (x :: l) hl hq k hk0 hk
  | nil =>
    show Ctr Try.prog 52 [.one (.own 0), .one (.dat (.int .i64 k))] [.frz 1 []] (.one (.dat (.int .i64 (k + (cntQueueS [] : Int))))) [.dead]
    rw [show k + (cntQueueS [] : Int) = k by simp [cntQueueS]]
    refine Ctr.bg mixed Try.func52 rfl ?_
    refine evl ?_
    refine LoopK_intro (fun zn zs => zn = 0 ∧ zs = mkSt [(5, .one (.dat (.int .i64 0))), (1, .one (.dat (.int .i64 k))), (0, .one (.own 0))] [.frz 1 []]) 0 _ (Ent.wk [0]) ⟨rfl, rfl⟩ ?_
    rintro zn zs ⟨rfl, rfl⟩ K hK
    have hd0 : decide ((0 : Int) < ((0 : Nat) : Int)) = false := rfl
    simp (maxSteps := 2000000) only [go_sem, ↓reduceIte, reduceCtorEq, Nat.reduceAdd, Nat.reduceMul, Nat.reduceSub, Nat.reduceLT, Nat.reduceLeDiff, Nat.reduceEqDiff, Int.reduceToNat, Int.reduceLT, Int.reduceLE, Int.reduceNeg, hd0]
    apply hK
    refine evl ?_
    refine Fin.nt Try.results52 [0] ?_ ?_ ?_ <;> try trivial
    all_goals simp [objsLe, envLe, find, St.obj, AObj.renF, AV.renF, AV.renF1, Leaf.renF, LowAll, AV.Low, AV.Low1, Leaf.Low, AObj.Low, Ptr.renF, Ptr.Low]
theorem c51_v (l : List Job) (k : Int) (hk0 : 0 ≤ k) (hk : k + 21 * l.length ≤ 4611686018427387904) : Ctr Try.prog 51 [.one (.own 0), .one (.dat (.int .i64 k))] [.vec 21 true (l.map encJob)] (.one (.dat (.int .i64 (k + 21 * l.length)))) [.dead] := by
  refine Ctr.bg mixed Try.func51 rfl ?_
  refine evl ?_
  refine LoopK_intro (fun zn zs => ∃ (i : Nat) (R : List (List D)) (kk : Int), i ≤ l.length ∧ zn = l.length - i ∧ (R.length = l.length ∧ R.drop i = (l.drop i).map encJob ∧ kk = k + 21 * (i : Int)) ∧ zs = mkSt [(5, .one (.dat (.int .i64 i))), (1, .one (.dat (.int .i64 kk))), (0, .one (.own 0))] [.vec 21 true R]) l.length _
    (Ent.wk [0]) ⟨0, l.map encJob, k, by omega, by omega, ⟨by simp, rfl, by omega⟩, rfl⟩ ?_
  rintro zn zs ⟨i, R, kk, hi, rfl, ⟨hR1, hR2, hk2⟩, rfl⟩ K hK
  rcases Nat.lt_or_ge i l.length with hlt | hge
  · have hd : decide ((i : Int) < ((l.length : Nat) : Int)) = true := decide_eq_true (by omega)
    have hw := wrap_succ hlt (show l.length ≤ maxLen by unfold maxLen; omega)
    rw [List.drop_eq_getElem_cons hlt] at hR2
    rw [List.map_cons] at hR2
    generalize l[i] = x at hR2
    have hA : (R.take i).length = i := by rw [List.length_take]; omega
    have hR : R = R.take i ++ encJob x :: (l.drop (i + 1)).map encJob := by rw [← hR2, List.take_append_drop]
    generalize hB : (l.drop (i + 1)).map encJob = B at hR
    generalize R.take i = A at hA hR
    subst hR
    have hl1 : ∀ y, (A ++ y :: B).length = l.length := fun y => by rw [List.length_append, List.length_cons] at hR1 ⊢; exact hR1
    clear hR2
    obtain ⟨k0, hk0e⟩ : ∃ z, z = kk + 1 := ⟨_, rfl⟩
    have hw0 : IntKind.i64.wrap (kk + 1) = k0 := by rw [hk0e, IntKind.wrap_i64]; omega
    obtain ⟨k1, hk1e⟩ : ∃ z, z = k0 + 1 := ⟨_, rfl⟩
    have hw1 : IntKind.i64.wrap (k0 + 1) = k1 := by rw [hk1e, IntKind.wrap_i64]; omega
    obtain ⟨k2, hk2e⟩ : ∃ z, z = k1 + 1 := ⟨_, rfl⟩
    have hw2 : IntKind.i64.wrap (k1 + 1) = k2 := by rw [hk2e, IntKind.wrap_i64]; omega
    obtain ⟨k3, hk3e⟩ : ∃ z, z = k2 + 1 := ⟨_, rfl⟩
    have hw3 : IntKind.i64.wrap (k2 + 1) = k3 := by rw [hk3e, IntKind.wrap_i64]; omega
    obtain ⟨k4, hk4e⟩ : ∃ z, z = k3 + 1 := ⟨_, rfl⟩
    have hw4 : IntKind.i64.wrap (k3 + 1) = k4 := by rw [hk4e, IntKind.wrap_i64]; omega
    obtain ⟨k5, hk5e⟩ : ∃ z, z = k4 + 1 := ⟨_, rfl⟩
    have hw5 : IntKind.i64.wrap (k4 + 1) = k5 := by rw [hk5e, IntKind.wrap_i64]; omega
    obtain ⟨k6, hk6e⟩ : ∃ z, z = k5 + 1 := ⟨_, rfl⟩
    have hw6 : IntKind.i64.wrap (k5 + 1) = k6 := by rw [hk6e, IntKind.wrap_i64]; omega
    obtain ⟨k7, hk7e⟩ : ∃ z, z = k6 + 1 := ⟨_, rfl⟩
    have hw7 : IntKind.i64.wrap (k6 + 1) = k7 := by rw [hk7e, IntKind.wrap_i64]; omega
    obtain ⟨k8, hk8e⟩ : ∃ z, z = k7 + 1 := ⟨_, rfl⟩
    have hw8 : IntKind.i64.wrap (k7 + 1) = k8 := by rw [hk8e, IntKind.wrap_i64]; omega
    obtain ⟨k9, hk9e⟩ : ∃ z, z = k8 + 1 := ⟨_, rfl⟩
    have hw9 : IntKind.i64.wrap (k8 + 1) = k9 := by rw [hk9e, IntKind.wrap_i64]; omega
    obtain ⟨k10, hk10e⟩ : ∃ z, z = k9 + 1 := ⟨_, rfl⟩
    have hw10 : IntKind.i64.wrap (k9 + 1) = k10 := by rw [hk10e, IntKind.wrap_i64]; omega
    obtain ⟨k11, hk11e⟩ : ∃ z, z = k10 + 1 := ⟨_, rfl⟩
    have hw11 : IntKind.i64.wrap (k10 + 1) = k11 := by rw [hk11e, IntKind.wrap_i64]; omega
    obtain ⟨k12, hk12e⟩ : ∃ z, z = k11 + 1 := ⟨_, rfl⟩
    have hw12 : IntKind.i64.wrap (k11 + 1) = k12 := by rw [hk12e, IntKind.wrap_i64]; omega
    obtain ⟨k13, hk13e⟩ : ∃ z, z = k12 + 1 := ⟨_, rfl⟩
    have hw13 : IntKind.i64.wrap (k12 + 1) = k13 := by rw [hk13e, IntKind.wrap_i64]; omega
    obtain ⟨k14, hk14e⟩ : ∃ z, z = k13 + 1 := ⟨_, rfl⟩
    have hw14 : IntKind.i64.wrap (k13 + 1) = k14 := by rw [hk14e, IntKind.wrap_i64]; omega
    obtain ⟨k15, hk15e⟩ : ∃ z, z = k14 + 1 := ⟨_, rfl⟩
    have hw15 : IntKind.i64.wrap (k14 + 1) = k15 := by rw [hk15e, IntKind.wrap_i64]; omega
    obtain ⟨k16, hk16e⟩ : ∃ z, z = k15 + 1 := ⟨_, rfl⟩
    have hw16 : IntKind.i64.wrap (k15 + 1) = k16 := by rw [hk16e, IntKind.wrap_i64]; omega
    obtain ⟨k17, hk17e⟩ : ∃ z, z = k16 + 1 := ⟨_, rfl⟩
    have hw17 : IntKind.i64.wrap (k16 + 1) = k17 := by rw [hk17e, IntKind.wrap_i64]; omega
    obtain ⟨k18, hk18e⟩ : ∃ z, z = k17 + 1 := ⟨_, rfl⟩
    have hw18 : IntKind.i64.wrap (k17 + 1) = k18 := by rw [hk18e, IntKind.wrap_i64]; omega
    obtain ⟨k19, hk19e⟩ : ∃ z, z = k18 + 1 := ⟨_, rfl⟩
    have hw19 : IntKind.i64.wrap (k18 + 1) = k19 := by rw [hk19e, IntKind.wrap_i64]; omega
    obtain ⟨k20, hk20e⟩ : ∃ z, z = k19 + 1 := ⟨_, rfl⟩
    have hw20 : IntKind.i64.wrap (k19 + 1) = k20 := by rw [hk20e, IntKind.wrap_i64]; omega
    simp (maxSteps := 2000000) only [go_sem, ↓reduceIte, reduceCtorEq, Nat.reduceAdd, Nat.reduceMul, Nat.reduceSub, Nat.reduceLT, Nat.reduceLeDiff, Nat.reduceEqDiff, Int.reduceToNat, Int.reduceLT, Int.reduceLE, Int.reduceNeg, hl1, hd, set_mid hA, getD_mid hA, encJob, hw, D.flat, hw0, hw1, hw2, hw3, hw4, hw5, hw6, hw7, hw8, hw9, hw10, hw11, hw12, hw13, hw14, hw15, hw16, hw17, hw18, hw19, hw20]
    repeat ((with_reducible show _ ∧ _); refine scA ?_)
    apply hK
    refine ⟨l.length - (i + 1), _, by omega, Ent.wk [0] (h4 := objsLe_one (Nat.zero_lt_succ _) rfl), i + 1, _, k20, by omega, rfl, ⟨hl1 _, ?_, by omega⟩, rfl⟩
    rw [drop_mid hA, hB]
  · have hge' : i = l.length := by omega
    subst hge'
    have hd : decide (((l.length : Nat) : Int) < ((l.length : Nat) : Int)) = false := by simp
    simp (maxSteps := 2000000) only [go_sem, ↓reduceIte, reduceCtorEq, Nat.reduceAdd, Nat.reduceMul, Nat.reduceSub, Nat.reduceLT, Nat.reduceLeDiff, Nat.reduceEqDiff, Int.reduceToNat, Int.reduceLT, Int.reduceLE, Int.reduceNeg, hR1, hd]
    apply hK
    refine evl ?_
    rw [hk2]
    refine Fin.nt Try.results51 [0] ?_ ?_ ?_ <;> try trivial
    all_goals simp [objsLe, envLe, find, St.obj, AObj.renF, AV.renF, AV.renF1, Leaf.renF, LowAll, AV.Low, AV.Low1, Leaf.Low, AObj.Low, Ptr.renF, Ptr.Low]
theorem c53_v (l : List Ev) (k : Int) (hk0 : 0 ≤ k) (hk : k + 7 * l.length ≤ 4611686018427387904) : Ctr Try.prog 53 [.one (.own 0), .one (.dat (.int .i64 k))] [.vec 7 true (l.map encEv)] (.one (.dat (.int .i64 (k + 7 * l.length)))) [.dead] := Ctr.drop (c53 l k hk0 hk) rfl
theorem c53_g (l : List Ev) (k : Int) (hk0 : 0 ≤ k) (hk : k + 7 * l.length ≤ 4611686018427387904) : Ctr Try.prog 53 [.one (.own 0), .one (.dat (.int .i64 k))] [lent 7 (l.map encEv)] (.one (.dat (.int .i64 (k + 7 * l.length)))) [.dead] := by
  cases l with
  | cons x l => exact c53_v (x :: l) k hk0 hk
  | nil =>
    show Ctr Try.prog 53 [.one (.own 0), .one (.dat (.int .i64 k))] [.frz 7 []] (.one (.dat (.int .i64 (k + 7 * ((0 : Nat) : Int))))) [.dead]
    rw [show k + 7 * ((0 : Nat) : Int) = k by omega]
    refine Ctr.bg mixed Try.func53 rfl ?_
    refine evl ?_
    refine LoopK_intro (fun zn zs => zn = 0 ∧ zs = mkSt [(5, .one (.dat (.int .i64 0))), (1, .one (.dat (.int .i64 k))), (0, .one (.own 0))] [.frz 7 []]) 0 _ (Ent.wk [0]) ⟨rfl, rfl⟩ ?_
    rintro zn zs ⟨rfl, rfl⟩ K hK
    have hd0 : decide ((0 : Int) < ((0 : Nat) : Int)) = false := rfl
    simp (maxSteps := 2000000) only [go_sem, ↓reduceIte, reduceCtorEq, Nat.reduceAdd, Nat.reduceMul, Nat.reduceSub, Nat.reduceLT, Nat.reduceLeDiff, Nat.reduceEqDiff, Int.reduceToNat, Int.reduceLT, Int.reduceLE, Int.reduceNeg, hd0]
    apply hK
    refine evl ?_
    refine Fin.nt Try.results53 [0] ?_ ?_ ?_ <;> try trivial
    all_goals simp [objsLe, envLe, find, St.obj, AObj.renF, AV.renF, AV.renF1, Leaf.renF, LowAll, AV.Low, AV.Low1, Leaf.Low, AObj.Low, Ptr.renF, Ptr.Low]
def Shelf.sok (x : Shelf) : Prop := x.Base.sok ∧ x.Cells.length ≤ 1048576 ∧ x.Jobs.length ≤ 1048576 ∧ x.Todo.length ≤ 1048576 ∧ (∀ y ∈ x.Todo, y.sok) ∧ x.Log.length ≤ 1048576 ∧ True
theorem Shelf.sok_of {x : Shelf} (h : sizShelf x ≤ 1048576) : x.sok := by
  unfold sizShelf at h
  unfold sizQueueS at h
  exact ⟨Base.sok_of (by omega), by omega, by omega, by omega, fun y hy => Queue.sok_of (by have := sum_mem sizQueue hy; omega), by omega, trivial⟩
def mcShelf (x : Shelf) : Nat := mcBase x.Base + 1 * x.Cells.length + 21 * x.Jobs.length + cntQueueS x.Todo + 7 * x.Log.length
theorem mcShelf_le (x : Shelf) : mcShelf x ≤ 32 * sizShelf x := by
  have := mcBase_le x.Base
  have := cntQueueS_le x.Todo
  unfold mcShelf sizShelf
  omega
def cntShelf (x : Shelf) : Nat := 2 + 1 * x.Base.Mem.Heap.Bytes.length + 1 * x.Base.Mem.Heap.Class.length + cntSListS x.Base.Mem.Lists.Global + cntSListS x.Base.Mem.Lists.Own + 4 * x.Base.Clock.Pins.length + cntLListS x.Base.Limbo + 1 * x.Base.Haz.length + 1 * x.Cells.length + 21 * x.Jobs.length + cntQueueS x.Todo + 7 * x.Log.length
def cntShelfS (l : List Shelf) : Nat := (l.map cntShelf).sum
theorem cntShelfS_cons (x : Shelf) (l : List Shelf) : cntShelfS (x :: l) = cntShelf x + cntShelfS l := by simp [cntShelfS]
theorem cntShelf_le (x : Shelf) : cntShelf x ≤ 32 * (1 + sizShelf x) := by
  have := cntSListS_le x.Base.Mem.Lists.Global
  have := cntSListS_le x.Base.Mem.Lists.Own
  have := cntLListS_le x.Base.Limbo
  have := cntQueueS_le x.Todo
  unfold cntShelf sizShelf
  unfold sizBase
  unfold sizMem
  unfold sizHeap
  unfold sizLists
  unfold sizClock
  omega
theorem cntShelfS_le (l : List Shelf) : cntShelfS l ≤ 32 * sizShelfS l := by
  unfold sizShelfS
  induction l with
  | nil => simp [cntShelfS]
  | cons x l ih =>
    have := cntShelf_le x
    rw [cntShelfS_cons, List.length_cons, List.map_cons, List.sum_cons]
    omega
theorem c23 (x : Shelf) (hx : x.sok) (k : Int) (hk0 : 0 ≤ k) (hk : k + (mcShelf x : Int) ≤ 4611686018427387904) : Ctr Try.prog 23 [.agg [.own 0, .own 1, .own 2, .own 3, .dat (.int .i64 x.Base.Clock.Epoch), .own 4, .own 5, .own 6, .own 7, .own 8, .own 9, .own 10, .dat (.int .i64 x.Serial)], .one (.dat (.int .i64 k))] [.vec 1 true (x.Base.Mem.Heap.Bytes.map encI), .vec 1 true (x.Base.Mem.Heap.Class.map encI), .vec 1 true (x.Base.Mem.Lists.Global.map encSList), .vec 1 true (x.Base.Mem.Lists.Own.map encSList), .vec 4 true (x.Base.Clock.Pins.map encPin), .vec 1 true (x.Base.Limbo.map encLList), .vec 1 true (x.Base.Haz.map encI), .vec 1 true (x.Cells.map encI), .vec 21 true (x.Jobs.map encJob), .vec 1 true (x.Todo.map encQueue), .vec 7 true (x.Log.map encEv)] (.one (.dat (.int .i64 (k + (mcShelf x : Int))))) [.dead, .dead, .dead, .dead, .dead, .dead, .dead, .dead, .dead, .dead, .dead] := by
  have hmc : mcShelf x = mcBase x.Base + 1 * x.Cells.length + 21 * x.Jobs.length + cntQueueS x.Todo + 7 * x.Log.length := rfl
  obtain ⟨q0, q1, q2, q3, q4, q5, _⟩ := hx
  refine Ctr.bg mixed Try.func23 rfl ?_
  refine evl ?_
  repeat ((with_reducible show _ ∧ _); refine scA ?_)
  refine CallK_os [0, 1, 2, 3, 4, 5, 6] e50 (by simp [osOk, St.obj, find]) (c50 x.Base q0 (k) (by omega) (by omega)) rfl ?_
  refine evl ?_
  repeat ((with_reducible show _ ∧ _); refine scA ?_)
  refine CallK_os [7] e24 (by simp [osOk, St.obj, find]) (c24_v x.Cells ((k + (mcBase x.Base : Int))) (by omega) (by omega)) rfl ?_
  refine evl ?_
  repeat ((with_reducible show _ ∧ _); refine scA ?_)
  refine CallK_os [8] e51 (by simp [osOk, St.obj, find]) (c51_v x.Jobs (((k + (mcBase x.Base : Int)) + 1 * (x.Cells.length : Int))) (by omega) (by omega)) rfl ?_
  refine evl ?_
  repeat ((with_reducible show _ ∧ _); refine scA ?_)
  refine CallK_os [9] e52 (by simp [osOk, St.obj, find]) (c52_v x.Todo q3 q4 ((((k + (mcBase x.Base : Int)) + 1 * (x.Cells.length : Int)) + 21 * (x.Jobs.length : Int))) (by omega) (by omega)) rfl ?_
  refine evl ?_
  repeat ((with_reducible show _ ∧ _); refine scA ?_)
  refine CallK_os [10] e53 (by simp [osOk, St.obj, find]) (c53_v x.Log (((((k + (mcBase x.Base : Int)) + 1 * (x.Cells.length : Int)) + 21 * (x.Jobs.length : Int)) + (cntQueueS x.Todo : Int))) (by omega) (by omega)) rfl ?_
  refine evl ?_
  rw [show (((((k + (mcBase x.Base : Int)) + 1 * (x.Cells.length : Int)) + 21 * (x.Jobs.length : Int)) + (cntQueueS x.Todo : Int)) + 7 * (x.Log.length : Int)) = k + (mcShelf x : Int) by omega]
  refine Fin.nt Try.results23 [0, 1, 2, 3, 4, 5, 6, 7, 8, 9, 10] ?_ ?_ ?_ <;> try trivial
  all_goals simp [objsLe, envLe, find, St.obj, AObj.renF, AV.renF, AV.renF1, Leaf.renF, LowAll, AV.Low, AV.Low1, Leaf.Low, AObj.Low, Ptr.renF, Ptr.Low]
def Script.sok (x : Script) : Prop := x.Todo.length ≤ 1048576 ∧ (∀ y ∈ x.Todo, y.sok) ∧ x.Picks.length ≤ 1048576 ∧ True
theorem Script.sok_of {x : Script} (h : sizScript x ≤ 1048576) : x.sok := by
  unfold sizScript at h
  unfold sizQueueS at h
  exact ⟨by omega, fun y hy => Queue.sok_of (by have := sum_mem sizQueue hy; omega), by omega, trivial⟩
def mcScript (x : Script) : Nat := cntQueueS x.Todo + 1 * x.Picks.length
theorem mcScript_le (x : Script) : mcScript x ≤ 32 * sizScript x := by
  have := cntQueueS_le x.Todo
  unfold mcScript sizScript
  omega
theorem c33_v (l : List Cmd) (k : Int) (hk0 : 0 ≤ k) (hk : k + 3 * l.length ≤ 4611686018427387904) : Ctr Try.prog 33 [.one (.own 0), .one (.dat (.int .i64 k))] [.vec 3 true (l.map encCmd)] (.one (.dat (.int .i64 (k + 3 * l.length)))) [.dead] := Ctr.drop (c33 l k hk0 hk) rfl
theorem c33_g (l : List Cmd) (k : Int) (hk0 : 0 ≤ k) (hk : k + 3 * l.length ≤ 4611686018427387904) : Ctr Try.prog 33 [.one (.own 0), .one (.dat (.int .i64 k))] [lent 3 (l.map encCmd)] (.one (.dat (.int .i64 (k + 3 * l.length)))) [.dead] := by
  cases l with
  | cons x l => exact c33_v (x :: l) k hk0 hk
  | nil =>
    show Ctr Try.prog 33 [.one (.own 0), .one (.dat (.int .i64 k))] [.frz 3 []] (.one (.dat (.int .i64 (k + 3 * ((0 : Nat) : Int))))) [.dead]
    rw [show k + 3 * ((0 : Nat) : Int) = k by omega]
    refine Ctr.bg mixed Try.func33 rfl ?_
    refine evl ?_
    refine LoopK_intro (fun zn zs => zn = 0 ∧ zs = mkSt [(5, .one (.dat (.int .i64 0))), (1, .one (.dat (.int .i64 k))), (0, .one (.own 0))] [.frz 3 []]) 0 _ (Ent.wk [0]) ⟨rfl, rfl⟩ ?_
    rintro zn zs ⟨rfl, rfl⟩ K hK
    have hd0 : decide ((0 : Int) < ((0 : Nat) : Int)) = false := rfl
    simp (maxSteps := 2000000) only [go_sem, ↓reduceIte, reduceCtorEq, Nat.reduceAdd, Nat.reduceMul, Nat.reduceSub, Nat.reduceLT, Nat.reduceLeDiff, Nat.reduceEqDiff, Int.reduceToNat, Int.reduceLT, Int.reduceLE, Int.reduceNeg, hd0]
    apply hK
    refine evl ?_
    refine Fin.nt Try.results33 [0] ?_ ?_ ?_ <;> try trivial
    all_goals simp [objsLe, envLe, find, St.obj, AObj.renF, AV.renF, AV.renF1, Leaf.renF, LowAll, AV.Low, AV.Low1, Leaf.Low, AObj.Low, Ptr.renF, Ptr.Low]
theorem c13_v (l : List KV) (k : Int) (hk0 : 0 ≤ k) (hk : k + 2 * l.length ≤ 4611686018427387904) : Ctr Try.prog 13 [.one (.own 0), .one (.dat (.int .i64 k))] [.vec 2 true (l.map encKV)] (.one (.dat (.int .i64 (k + 2 * l.length)))) [.dead] := Ctr.drop (c13 l k hk0 hk) rfl
theorem c13_g (l : List KV) (k : Int) (hk0 : 0 ≤ k) (hk : k + 2 * l.length ≤ 4611686018427387904) : Ctr Try.prog 13 [.one (.own 0), .one (.dat (.int .i64 k))] [lent 2 (l.map encKV)] (.one (.dat (.int .i64 (k + 2 * l.length)))) [.dead] := by
  cases l with
  | cons x l => exact c13_v (x :: l) k hk0 hk
  | nil =>
    show Ctr Try.prog 13 [.one (.own 0), .one (.dat (.int .i64 k))] [.frz 2 []] (.one (.dat (.int .i64 (k + 2 * ((0 : Nat) : Int))))) [.dead]
    rw [show k + 2 * ((0 : Nat) : Int) = k by omega]
    refine Ctr.bg mixed Try.func13 rfl ?_
    refine evl ?_
    refine LoopK_intro (fun zn zs => zn = 0 ∧ zs = mkSt [(5, .one (.dat (.int .i64 0))), (1, .one (.dat (.int .i64 k))), (0, .one (.own 0))] [.frz 2 []]) 0 _ (Ent.wk [0]) ⟨rfl, rfl⟩ ?_
    rintro zn zs ⟨rfl, rfl⟩ K hK
    have hd0 : decide ((0 : Int) < ((0 : Nat) : Int)) = false := rfl
    simp (maxSteps := 2000000) only [go_sem, ↓reduceIte, reduceCtorEq, Nat.reduceAdd, Nat.reduceMul, Nat.reduceSub, Nat.reduceLT, Nat.reduceLeDiff, Nat.reduceEqDiff, Int.reduceToNat, Int.reduceLT, Int.reduceLE, Int.reduceNeg, hd0]
    apply hK
    refine evl ?_
    refine Fin.nt Try.results13 [0] ?_ ?_ ?_ <;> try trivial
    all_goals simp [objsLe, envLe, find, St.obj, AObj.renF, AV.renF, AV.renF1, Leaf.renF, LowAll, AV.Low, AV.Low1, Leaf.Low, AObj.Low, Ptr.renF, Ptr.Low]
def Batch.sok (x : Batch) : Prop := x.Cmds.length ≤ 1048576 ∧ True
theorem Batch.sok_of {x : Batch} (h : sizBatch x ≤ 1048576) : x.sok := by
  unfold sizBatch at h
  exact ⟨by omega, trivial⟩
def mcBatch (x : Batch) : Nat := 3 * x.Cmds.length
theorem mcBatch_le (x : Batch) : mcBatch x ≤ 32 * sizBatch x := by
  unfold mcBatch sizBatch
  omega
def cntBatch (x : Batch) : Nat := 1 + 3 * x.Cmds.length
def cntBatchS (l : List Batch) : Nat := (l.map cntBatch).sum
theorem cntBatchS_cons (x : Batch) (l : List Batch) : cntBatchS (x :: l) = cntBatch x + cntBatchS l := by simp [cntBatchS]
theorem cntBatch_le (x : Batch) : cntBatch x ≤ 32 * (1 + sizBatch x) := by
  unfold cntBatch sizBatch
  omega
theorem cntBatchS_le (l : List Batch) : cntBatchS l ≤ 32 * sizBatchS l := by
  unfold sizBatchS
  induction l with
  | nil => simp [cntBatchS]
  | cons x l ih =>
    have := cntBatch_le x
    rw [cntBatchS_cons, List.length_cons, List.map_cons, List.sum_cons]
    omega
def TQueue.sok (x : TQueue) : Prop := x.List.length ≤ 1048576 ∧ (∀ y ∈ x.List, y.sok) ∧ True
theorem TQueue.sok_of {x : TQueue} (h : sizTQueue x ≤ 1048576) : x.sok := by
  unfold sizTQueue at h
  unfold sizBatchS at h
  exact ⟨by omega, fun y hy => Batch.sok_of (by have := sum_mem sizBatch hy; omega), trivial⟩
def mcTQueue (x : TQueue) : Nat := cntBatchS x.List
theorem mcTQueue_le (x : TQueue) : mcTQueue x ≤ 32 * sizTQueue x := by
  have := cntBatchS_le x.List
  unfold mcTQueue sizTQueue
  omega
def cntTQueue (x : TQueue) : Nat := cntBatchS x.List
def cntTQueueS (l : List TQueue) : Nat := (l.map cntTQueue).sum
theorem cntTQueueS_cons (x : TQueue) (l : List TQueue) : cntTQueueS (x :: l) = cntTQueue x + cntTQueueS l := by simp [cntTQueueS]
theorem cntTQueue_le (x : TQueue) : cntTQueue x ≤ 32 * (1 + sizTQueue x) := by
  have := cntBatchS_le x.List
  unfold cntTQueue sizTQueue
  omega
theorem cntTQueueS_le (l : List TQueue) : cntTQueueS l ≤ 32 * sizTQueueS l := by
  unfold sizTQueueS
  induction l with
  | nil => simp [cntTQueueS]
  | cons x l ih =>
    have := cntTQueue_le x
    rw [cntTQueueS_cons, List.length_cons, List.map_cons, List.sum_cons]
    omega
theorem c34_v (l : List Res) (k : Int) (hk0 : 0 ≤ k) (hk : k + 2 * l.length ≤ 4611686018427387904) : Ctr Try.prog 34 [.one (.own 0), .one (.dat (.int .i64 k))] [.vec 2 true (l.map encRes)] (.one (.dat (.int .i64 (k + 2 * l.length)))) [.dead] := Ctr.drop (c34 l k hk0 hk) rfl
theorem c34_g (l : List Res) (k : Int) (hk0 : 0 ≤ k) (hk : k + 2 * l.length ≤ 4611686018427387904) : Ctr Try.prog 34 [.one (.own 0), .one (.dat (.int .i64 k))] [lent 2 (l.map encRes)] (.one (.dat (.int .i64 (k + 2 * l.length)))) [.dead] := by
  cases l with
  | cons x l => exact c34_v (x :: l) k hk0 hk
  | nil =>
    show Ctr Try.prog 34 [.one (.own 0), .one (.dat (.int .i64 k))] [.frz 2 []] (.one (.dat (.int .i64 (k + 2 * ((0 : Nat) : Int))))) [.dead]
    rw [show k + 2 * ((0 : Nat) : Int) = k by omega]
    refine Ctr.bg mixed Try.func34 rfl ?_
    refine evl ?_
    refine LoopK_intro (fun zn zs => zn = 0 ∧ zs = mkSt [(5, .one (.dat (.int .i64 0))), (1, .one (.dat (.int .i64 k))), (0, .one (.own 0))] [.frz 2 []]) 0 _ (Ent.wk [0]) ⟨rfl, rfl⟩ ?_
    rintro zn zs ⟨rfl, rfl⟩ K hK
    have hd0 : decide ((0 : Int) < ((0 : Nat) : Int)) = false := rfl
    simp (maxSteps := 2000000) only [go_sem, ↓reduceIte, reduceCtorEq, Nat.reduceAdd, Nat.reduceMul, Nat.reduceSub, Nat.reduceLT, Nat.reduceLeDiff, Nat.reduceEqDiff, Int.reduceToNat, Int.reduceLT, Int.reduceLE, Int.reduceNeg, hd0]
    apply hK
    refine evl ?_
    refine Fin.nt Try.results34 [0] ?_ ?_ ?_ <;> try trivial
    all_goals simp [objsLe, envLe, find, St.obj, AObj.renF, AV.renF, AV.renF1, Leaf.renF, LowAll, AV.Low, AV.Low1, Leaf.Low, AObj.Low, Ptr.renF, Ptr.Low]
def TJob.sok (x : TJob) : Prop := x.Batch.sok ∧ x.Reads.length ≤ 1048576 ∧ x.Writes.length ≤ 1048576 ∧ x.Res.length ≤ 1048576 ∧ x.New.length ≤ 1048576 ∧ x.Held.length ≤ 1048576 ∧ x.Olds.length ≤ 1048576 ∧ True
theorem TJob.sok_of {x : TJob} (h : sizTJob x ≤ 1048576) : x.sok := by
  unfold sizTJob at h
  exact ⟨Batch.sok_of (by omega), by omega, by omega, by omega, by omega, by omega, by omega, trivial⟩
def mcTJob (x : TJob) : Nat := mcBatch x.Batch + 2 * x.Reads.length + 3 * x.Writes.length + 2 * x.Res.length + 1 * x.New.length + 1 * x.Held.length + 1 * x.Olds.length
theorem mcTJob_le (x : TJob) : mcTJob x ≤ 32 * sizTJob x := by
  have := mcBatch_le x.Batch
  unfold mcTJob sizTJob
  omega
def cntTJob (x : TJob) : Nat := 25 + 3 * x.Batch.Cmds.length + 2 * x.Reads.length + 3 * x.Writes.length + 2 * x.Res.length + 1 * x.New.length + 1 * x.Held.length + 1 * x.Olds.length
def cntTJobS (l : List TJob) : Nat := (l.map cntTJob).sum
theorem cntTJobS_cons (x : TJob) (l : List TJob) : cntTJobS (x :: l) = cntTJob x + cntTJobS l := by simp [cntTJobS]
theorem cntTJob_le (x : TJob) : cntTJob x ≤ 32 * (1 + sizTJob x) := by
  unfold cntTJob sizTJob
  unfold sizBatch
  omega
theorem cntTJobS_le (l : List TJob) : cntTJobS l ≤ 32 * sizTJobS l := by
  unfold sizTJobS
  induction l with
  | nil => simp [cntTJobS]
  | cons x l ih =>
    have := cntTJob_le x
    rw [cntTJobS_cons, List.length_cons, List.map_cons, List.sum_cons]
    omega
def TEv.sok (x : TEv) : Prop := x.Cmds.length ≤ 1048576 ∧ x.Res.length ≤ 1048576 ∧ True
theorem TEv.sok_of {x : TEv} (h : sizTEv x ≤ 1048576) : x.sok := by
  unfold sizTEv at h
  exact ⟨by omega, by omega, trivial⟩
def mcTEv (x : TEv) : Nat := 3 * x.Cmds.length + 2 * x.Res.length
theorem mcTEv_le (x : TEv) : mcTEv x ≤ 32 * sizTEv x := by
  unfold mcTEv sizTEv
  omega
def cntTEv (x : TEv) : Nat := 4 + 3 * x.Cmds.length + 2 * x.Res.length
def cntTEvS (l : List TEv) : Nat := (l.map cntTEv).sum
theorem cntTEvS_cons (x : TEv) (l : List TEv) : cntTEvS (x :: l) = cntTEv x + cntTEvS l := by simp [cntTEvS]
theorem cntTEv_le (x : TEv) : cntTEv x ≤ 32 * (1 + sizTEv x) := by
  unfold cntTEv sizTEv
  omega
theorem cntTEvS_le (l : List TEv) : cntTEvS l ≤ 32 * sizTEvS l := by
  unfold sizTEvS
  induction l with
  | nil => simp [cntTEvS]
  | cons x l ih =>
    have := cntTEv_le x
    rw [cntTEvS_cons, List.length_cons, List.map_cons, List.sum_cons]
    omega
theorem c12_v (l : List TEv) (hl : l.length ≤ 1048576) (hq : ∀ x ∈ l, x.sok) (k : Int) (hk0 : 0 ≤ k) (hk : k + (cntTEvS l : Int) ≤ 4611686018427387904) : Ctr Try.prog 12 [.one (.own 0), .one (.dat (.int .i64 k))] [.vec 6 true (l.map encTEv)] (.one (.dat (.int .i64 (k + (cntTEvS l : Int))))) [.dead] := by
  refine Ctr.bg mixed Try.func12 rfl ?_
  refine evl ?_
  refine LoopK_intro (fun zn zs => ∃ (i : Nat) (R : List (List D)) (kk : Int), i ≤ l.length ∧ zn = l.length - i ∧ (R.length = l.length ∧ R.drop i = (l.drop i).map encTEv ∧ 0 ≤ kk ∧ kk + (cntTEvS (l.drop i) : Int) = k + (cntTEvS l : Int)) ∧ zs = mkSt [(5, .one (.dat (.int .i64 i))), (1, .one (.dat (.int .i64 kk))), (0, .one (.own 0))] [.vec 6 true R]) l.length _
    (Ent.wk [0]) ⟨0, l.map encTEv, k, by omega, by omega, ⟨by simp, rfl, hk0, rfl⟩, rfl⟩ ?_
  rintro zn zs ⟨i, R, kk, hi, rfl, ⟨hR1, hR2, hk1, hk2⟩, rfl⟩ K hK
  rcases Nat.lt_or_ge i l.length with hlt | hge
  · have hd : decide ((i : Int) < ((l.length : Nat) : Int)) = true := decide_eq_true (by omega)
    have hw := wrap_succ hlt (show l.length ≤ maxLen by unfold maxLen; omega)
    have hqx := hq l[i] (List.getElem_mem hlt)
    rw [List.drop_eq_getElem_cons hlt] at hk2 hR2
    rw [List.map_cons] at hR2
    generalize l[i] = x at hk2 hR2 hqx
    obtain ⟨q0, q1, _⟩ := hqx
    rw [cntTEvS_cons] at hk2
    have hcx : cntTEv x = 4 + 3 * x.Cmds.length + 2 * x.Res.length := rfl
    have hA : (R.take i).length = i := by rw [List.length_take]; omega
    have hR : R = R.take i ++ encTEv x :: (l.drop (i + 1)).map encTEv := by rw [← hR2, List.take_append_drop]
    generalize hB : (l.drop (i + 1)).map encTEv = B at hR
    generalize R.take i = A at hA hR
    subst hR
    have hl1 : ∀ y, (A ++ y :: B).length = l.length := fun y => by rw [List.length_append, List.length_cons] at hR1 ⊢; exact hR1
    clear hR2
    obtain ⟨k1, hk1e⟩ : ∃ z, z = kk + 1 := ⟨_, rfl⟩
    have hw1 : IntKind.i64.wrap (kk + 1) = k1 := by rw [hk1e, IntKind.wrap_i64]; omega
    obtain ⟨k2, hk2e⟩ : ∃ z, z = k1 + 1 := ⟨_, rfl⟩
    have hw2 : IntKind.i64.wrap (k1 + 1) = k2 := by rw [hk2e, IntKind.wrap_i64]; omega
    obtain ⟨k3, hk3e⟩ : ∃ z, z = k2 + 1 := ⟨_, rfl⟩
    have hw3 : IntKind.i64.wrap (k2 + 1) = k3 := by rw [hk3e, IntKind.wrap_i64]; omega
    obtain ⟨k4, hk4e⟩ : ∃ z, z = k3 + 1 := ⟨_, rfl⟩
    have hw4 : IntKind.i64.wrap (k3 + 1) = k4 := by rw [hk4e, IntKind.wrap_i64]; omega
    simp (maxSteps := 2000000) only [go_sem, ↓reduceIte, reduceCtorEq, Nat.reduceAdd, Nat.reduceMul, Nat.reduceSub, Nat.reduceLT, Nat.reduceLeDiff, Nat.reduceEqDiff, Int.reduceToNat, Int.reduceLT, Int.reduceLE, Int.reduceNeg, hl1, hd, set_mid hA, getD_mid hA, encTEv, hw, D.flat, hw1, hw2, hw3, hw4]
    repeat ((with_reducible show _ ∧ _); refine scA ?_)
    intro v0
    try (simp (maxSteps := 2000000) only [go_sem, ↓reduceIte, reduceCtorEq, Nat.reduceAdd, Nat.reduceMul, Nat.reduceSub, Nat.reduceLT, Nat.reduceLeDiff, Nat.reduceEqDiff, Int.reduceToNat, Int.reduceLT, Int.reduceLE, Int.reduceNeg, hl1, hd, set_mid hA, getD_mid hA, encTEv, hw, D.flat, hw1, hw2, hw3, hw4])
    repeat ((with_reducible show _ ∧ _); refine scA ?_)
    refine CallK_os [1] e33 (by simp [osOk, St.obj, find]) (c33_g x.Cmds (k4) (by omega) (by omega)) rfl ?_
    simp (maxSteps := 2000000) only [go_sem, ↓reduceIte, reduceCtorEq, Nat.reduceAdd, Nat.reduceMul, Nat.reduceSub, Nat.reduceLT, Nat.reduceLeDiff, Nat.reduceEqDiff, Int.reduceToNat, Int.reduceLT, Int.reduceLE, Int.reduceNeg, hl1, hd, set_mid hA, getD_mid hA, encTEv, hw, D.flat, hw1, hw2, hw3, hw4]
    repeat ((with_reducible show _ ∧ _); refine scA ?_)
    intro v1
    try (simp (maxSteps := 2000000) only [go_sem, ↓reduceIte, reduceCtorEq, Nat.reduceAdd, Nat.reduceMul, Nat.reduceSub, Nat.reduceLT, Nat.reduceLeDiff, Nat.reduceEqDiff, Int.reduceToNat, Int.reduceLT, Int.reduceLE, Int.reduceNeg, hl1, hd, set_mid hA, getD_mid hA, encTEv, hw, D.flat, hw1, hw2, hw3, hw4])
    repeat ((with_reducible show _ ∧ _); refine scA ?_)
    refine CallK_os [3] e34 (by simp [osOk, St.obj, find]) (c34_g x.Res ((k4 + 3 * (x.Cmds.length : Int))) (by omega) (by omega)) rfl ?_
    simp (maxSteps := 2000000) only [go_sem, ↓reduceIte, reduceCtorEq, Nat.reduceAdd, Nat.reduceMul, Nat.reduceSub, Nat.reduceLT, Nat.reduceLeDiff, Nat.reduceEqDiff, Int.reduceToNat, Int.reduceLT, Int.reduceLE, Int.reduceNeg, hl1, hd, set_mid hA, getD_mid hA, encTEv, hw, D.flat, hw1, hw2, hw3, hw4]
    repeat ((with_reducible show _ ∧ _); refine scA ?_)
    apply hK
    refine ⟨l.length - (i + 1), _, by omega, Ent.wk [0] (h4 := objsLe_one (Nat.zero_lt_succ _) rfl), i + 1, _, ((k4 + 3 * (x.Cmds.length : Int)) + 2 * (x.Res.length : Int)), by omega, rfl, ⟨hl1 _, ?_, by omega, by omega⟩, rfl⟩
    rw [drop_mid hA, hB]
  · have hge' : i = l.length := by omega
    subst hge'
    rw [List.drop_length] at hk2
    have hkk : kk = k + (cntTEvS l : Int) := by rw [← hk2]; simp [cntTEvS]
    have hd : decide (((l.length : Nat) : Int) < ((l.length : Nat) : Int)) = false := by simp
    simp (maxSteps := 2000000) only [go_sem, ↓reduceIte, reduceCtorEq, Nat.reduceAdd, Nat.reduceMul, Nat.reduceSub, Nat.reduceLT, Nat.reduceLeDiff, Nat.reduceEqDiff, Int.reduceToNat, Int.reduceLT, Int.reduceLE, Int.reduceNeg, hR1, hd]
    apply hK
    refine evl ?_
    rw [hkk]
    refine Fin.nt Try.results12 [0] ?_ ?_ ?_ <;> try trivial
    all_goals simp [objsLe, envLe, find, St.obj, AObj.renF, AV.renF, AV.renF1, Leaf.renF, LowAll, AV.Low, AV.Low1, Leaf.Low, AObj.Low, Ptr.renF, Ptr.Low]
theorem c12_g (l : List TEv) (hl : l.length ≤ 1048576) (hq : ∀ x ∈ l, x.sok) (k : Int) (hk0 : 0 ≤ k) (hk : k + (cntTEvS l : Int) ≤ 4611686018427387904) : Ctr Try.prog 12 [.one (.own 0), .one (.dat (.int .i64 k))] [lent 6 (l.map encTEv)] (.one (.dat (.int .i64 (k + (cntTEvS l : Int))))) [.dead] := by
  cases l with
  | cons x l => exact c12_v (x :: l) hl hq k hk0 hk
  | nil =>
    show Ctr Try.prog 12 [.one (.own 0), .one (.dat (.int .i64 k))] [.frz 6 []] (.one (.dat (.int .i64 (k + (cntTEvS [] : Int))))) [.dead]
    rw [show k + (cntTEvS [] : Int) = k by simp [cntTEvS]]
    refine Ctr.bg mixed Try.func12 rfl ?_
    refine evl ?_
    refine LoopK_intro (fun zn zs => zn = 0 ∧ zs = mkSt [(5, .one (.dat (.int .i64 0))), (1, .one (.dat (.int .i64 k))), (0, .one (.own 0))] [.frz 6 []]) 0 _ (Ent.wk [0]) ⟨rfl, rfl⟩ ?_
    rintro zn zs ⟨rfl, rfl⟩ K hK
    have hd0 : decide ((0 : Int) < ((0 : Nat) : Int)) = false := rfl
    simp (maxSteps := 2000000) only [go_sem, ↓reduceIte, reduceCtorEq, Nat.reduceAdd, Nat.reduceMul, Nat.reduceSub, Nat.reduceLT, Nat.reduceLeDiff, Nat.reduceEqDiff, Int.reduceToNat, Int.reduceLT, Int.reduceLE, Int.reduceNeg, hd0]
    apply hK
    refine evl ?_
    refine Fin.nt Try.results12 [0] ?_ ?_ ?_ <;> try trivial
    all_goals simp [objsLe, envLe, find, St.obj, AObj.renF, AV.renF, AV.renF1, Leaf.renF, LowAll, AV.Low, AV.Low1, Leaf.Low, AObj.Low, Ptr.renF, Ptr.Low]
def Table.sok (x : Table) : Prop := x.Base.sok ∧ x.Bkts.length ≤ 1048576 ∧ x.Jobs.length ≤ 1048576 ∧ (∀ y ∈ x.Jobs, y.sok) ∧ x.Todo.length ≤ 1048576 ∧ (∀ y ∈ x.Todo, y.sok) ∧ x.Log.length ≤ 1048576 ∧ (∀ y ∈ x.Log, y.sok) ∧ True
theorem Table.sok_of {x : Table} (h : sizTable x ≤ 1048576) : x.sok := by
  unfold sizTable at h
  unfold sizTEvS at h
  unfold sizTJobS at h
  unfold sizTQueueS at h
  exact ⟨Base.sok_of (by omega), by omega, by omega, fun y hy => TJob.sok_of (by have := sum_mem sizTJob hy; omega), by omega, fun y hy => TQueue.sok_of (by have := sum_mem sizTQueue hy; omega), by omega, fun y hy => TEv.sok_of (by have := sum_mem sizTEv hy; omega), trivial⟩
def mcTable (x : Table) : Nat := mcBase x.Base + 3 * x.Bkts.length + cntTJobS x.Jobs + cntTQueueS x.Todo + cntTEvS x.Log
theorem mcTable_le (x : Table) : mcTable x ≤ 32 * sizTable x := by
  have := mcBase_le x.Base
  have := cntTJobS_le x.Jobs
  have := cntTQueueS_le x.Todo
  have := cntTEvS_le x.Log
  unfold mcTable sizTable
  omega
def TScript.sok (x : TScript) : Prop := x.Todo.length ≤ 1048576 ∧ (∀ y ∈ x.Todo, y.sok) ∧ x.Picks.length ≤ 1048576 ∧ True
theorem TScript.sok_of {x : TScript} (h : sizTScript x ≤ 1048576) : x.sok := by
  unfold sizTScript at h
  unfold sizTQueueS at h
  exact ⟨by omega, fun y hy => TQueue.sok_of (by have := sum_mem sizTQueue hy; omega), by omega, trivial⟩
def mcTScript (x : TScript) : Nat := cntTQueueS x.Todo + 1 * x.Picks.length
theorem mcTScript_le (x : TScript) : mcTScript x ≤ 32 * sizTScript x := by
  have := cntTQueueS_le x.Todo
  unfold mcTScript sizTScript
  omega
end Go.Proofs.Ytjfpaiencojehaa.Mod
