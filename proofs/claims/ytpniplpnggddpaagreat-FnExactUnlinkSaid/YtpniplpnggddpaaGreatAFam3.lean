/- Contracts: Fam3. -/
import Derived.Test.YtpniplpnggddpaaGreatRows
import Derived.Test.YtpniplpnggddpaaGreatATy
import Derived.Test.YtpniplpnggddpaaGreatAbsTac
import Derived.Test.YtpniplpnggddpaaGreatAbsData
import Derived.Test.YtpniplpnggddpaaGreatASok
import Derived.WalkKit
import Derived.ProofKit
import Derived.OpenShut
namespace Go.Proofs.YtpniplpnggddpaaGreat.Mod
open Go.Proofs.Tryz Go.Abs Go.Proofs.YtpniplpnggddpaaGreat.Ty Go.ChangeShapes Go.WideShapes Go.ChangeAt Go.RowKit
set_option linter.unusedSimpArgs false
set_option linter.unusedVariables false
set_option maxHeartbeats 8000000
set_option maxRecDepth 100000
theorem c89 (l : List Int) (k : Int) (hk0 : 0 <= k) (hk : k + 1 * l.length <= 4611686018427387904) : Ctr prog 89 [.one (.own 0), .one (.dat (.int .i64 k))] [.vec 1 true (l.map encI)] (.one (.dat (.int .i64 (k + 1 * l.length)))) [.vec 1 true (markInts k l.length)] := by
 refine Ctr.of_body mixed func89 rfl (by kernel_rfl) (Nat.le_of_ble_eq_true rfl) (by simp [AV.Clean, AV.Clean1, Leaf.Clean, D.flat]) (by simp [AObj.Sep]) (by simp) ?_ (by simp [AV.Low, AV.Low1, Leaf.Low]) ?_
 ·intro o ho
  have : o = 0 := by simpa using ho
  subst this
  simp [Objs, Compat, markInts]
 show wpA _ _ _ (FinQ _ _ _ _ _) _
 unfold markInts
 refine evl ?_
 refine LoopK_intro (fun n s => ∃ i : Nat, i <= l.length /\ n = l.length - i /\ s = mkSt [(5, .one (.dat (.int .i64 i))), (1, .one (.dat (.int .i64 (k + 1 * (i : Nat))))), (0, .one (.own 0))]
   [.vec 1 true ((List.range i).map (fun i => encI (k + 1 * (i : Nat))) ++ (l.drop i).map encI)]) l.length _
  (Ent.wk [0]) ⟨0, by omega, by omega, rfl⟩ ?_
 rintro n s ⟨i, hi, rfl, rfl⟩ K hK
 have hlen : ((List.range i).map (fun i => encI (k + 1 * (i : Nat))) ++ (l.drop i).map encI).length = l.length := by simp; omega
 rcases Nat.lt_or_ge i l.length with hlt | hge
 ·have hA : ((List.range i).map (fun i => encI (k + 1 * (i : Nat)))).length = i := by simp
  have hd : decide ((i : Int) < l.length) = true := by simpa using hlt
  have hw := wrap_succ hlt (show l.length <= maxLen by unfold maxLen; omega)
  have hw1 : IntKind.i64.wrap (k + 1 * (i : Int) + 1) = k + 1 * (i : Int) + 1 := by rw [IntKind.wrap_i64]; omega
  rw [List.drop_eq_getElem_cons hlt, List.map_cons] at hlen ⊢
  generalize hAd : (List.range i).map (fun i => encI (k + 1 * (i : Nat))) = A at hA hlen ⊢
  have hl1 : ∀ x, (A ++ x :: (l.drop (i + 1)).map encI).length = l.length := fun x => by
   rw [List.length_append, List.length_cons] at hlen ⊢; exact hlen
  simp (maxSteps := 2000000) only [go_sem, seval, hl1, hd, set_mid hA, getD_mid hA, encI, hw, hw1, D.flat]
  refine scs ?_
  apply hK
  refine ⟨l.length - (i + 1), _, by omega, Ent.weak (ids := [0]) (by simp) rfl (by simp) ?_ ?_ (by simp [objsLe, envLe, find, St.obj, AObj.renF, AV.renF, AV.renF1, Leaf.renF, LowAll, AV.Low, AV.Low1, Leaf.Low, AObj.Low, Ptr.renF, Ptr.Low]), i + 1, by omega, rfl, rfl⟩
  ·rw [List.range_succ, List.map_append, hAd]
   simp [objsLe, envLe, find, St.obj, AObj.renF, AV.renF, AV.renF1, Leaf.renF, LowAll, AV.Low, AV.Low1, Leaf.Low, AObj.Low, Ptr.renF, Ptr.Low]
   rfl
  ·simp [objsLe, envLe, find, St.obj, AObj.renF, AV.renF, AV.renF1, Leaf.renF, LowAll, AV.Low, AV.Low1, Leaf.Low, AObj.Low, Ptr.renF, Ptr.Low]
   omega
 ·have hge' : i = l.length := by omega
  subst hge'
  have hd : decide ((l.length : Int) < l.length) = false := by simp
  simp (maxSteps := 2000000) only [go_sem, seval, hlen, hd]
  apply hK
  refine evl ?_
  refine Fin.nt results89 [0] ?_ ?_ ?_ <;> try trivial
  rw [List.drop_length, List.map_nil, List.append_nil]
  simp [objsLe, envLe, find, St.obj, AObj.renF, AV.renF, AV.renF1, Leaf.renF, LowAll, AV.Low, AV.Low1, Leaf.Low, AObj.Low, Ptr.renF, Ptr.Low]
theorem c91 (n : Nat) (k : Int) (hk0 : 0 <= k) (hk : k + 1 * n <= 4611686018427387904) : Ctr prog 91 [.one (.dat (.sl 1 (markInts k n))), .one (.dat (.int .i64 k))] [] (.one (.dat (.int .i64 (k + 1 * n)))) [] := by
 refine Ctr.bd mixed func91 rfl ?_
 unfold markInts
 refine evl ?_
 refine LoopK_intro (fun m s => ∃ i : Nat, i <= n /\ m = n - i /\ s = mkSt [(5, .one (.dat (.int .i64 i))), (1, .one (.dat (.int .i64 (k + 1 * (i : Nat))))), (0, .one (.dat (.sl 1 ((List.range n).map fun i => encI (k + 1 * (i : Nat))))))] []) n _
  (Ent.wk []) ⟨0, by omega, by omega, rfl⟩ ?_
 rintro m s ⟨i, hi, rfl, rfl⟩ K hK
 have hlen : ((List.range n).map fun i => encI (k + 1 * (i : Nat))).length = n := by simp
 rcases Nat.lt_or_ge i n with hlt | hge
 ·have hd : decide ((i : Int) < n) = true := by simpa using hlt
  have hw := wrap_succ hlt (show n <= maxLen by unfold maxLen; omega)
  have hw1 : IntKind.i64.wrap (k + 1 * (i : Int) + 1) = k + 1 * (i : Int) + 1 := by rw [IntKind.wrap_i64]; omega
  have hg : ((List.range n).map fun i => encI (k + 1 * (i : Nat))).getD i [] = encI (k + 1 * (i : Nat)) := getD_range hlt
  generalize ((List.range n).map fun i => encI (k + 1 * (i : Nat))) = L at hlen hg hK ⊢
  simp (maxSteps := 2000000) only [go_sem, seval, hlen, hd, hg, encI, hw, hw1]
  refine scs ?_
  apply hK
  refine ⟨n - (i + 1), _, by omega, Ent.weak (ids := []) (by simp) rfl (by simp) (by simp [objsLe, envLe, find, St.obj, AObj.renF, AV.renF, AV.renF1, Leaf.renF, LowAll, AV.Low, AV.Low1, Leaf.Low, AObj.Low, Ptr.renF, Ptr.Low]) (by simp [objsLe, envLe, find, St.obj, AObj.renF, AV.renF, AV.renF1, Leaf.renF, LowAll, AV.Low, AV.Low1, Leaf.Low, AObj.Low, Ptr.renF, Ptr.Low]; omega) (by simp [objsLe, envLe, find, St.obj, AObj.renF, AV.renF, AV.renF1, Leaf.renF, LowAll, AV.Low, AV.Low1, Leaf.Low, AObj.Low, Ptr.renF, Ptr.Low]), i + 1, by omega, rfl, rfl⟩
 ·have hge' : i = n := by omega
  subst hge'
  have hd : decide ((i : Int) < i) = false := by simp
  simp (maxSteps := 2000000) only [go_sem, seval, List.length_range, hd]
  apply hK
  refine evl ?_
  refine Fin.nt results91 [] ?_ ?_ ?_ <;> try trivial
theorem c89_v (l : List Int) (k : Int) (hk0 : 0 <= k) (hk : k + 1 * l.length <= 4611686018427387904) : Ctr prog 89 [.one (.own 0), .one (.dat (.int .i64 k))] [.vec 1 true (l.map encI)] (.one (.dat (.int .i64 (k + 1 * l.length)))) [.dead] := Ctr.drop (c89 l k hk0 hk) rfl
theorem c89_g (l : List Int) (k : Int) (hk0 : 0 <= k) (hk : k + 1 * l.length <= 4611686018427387904) : Ctr prog 89 [.one (.own 0), .one (.dat (.int .i64 k))] [lent 1 (l.map encI)] (.one (.dat (.int .i64 (k + 1 * l.length)))) [.dead] := by
 cases l with
 | cons x l => exact c89_v (x :: l) k hk0 hk
 | nil =>
  show Ctr prog 89 [.one (.own 0), .one (.dat (.int .i64 k))] [.frz 1 []] (.one (.dat (.int .i64 (k + 1 * ((0 : Nat) : Int))))) [.dead]
  rw [show k + 1 * ((0 : Nat) : Int) = k by omega]
  refine Ctr.bg mixed func89 rfl ?_
  refine evl ?_
  refine LoopK_intro (fun zn zs => zn = 0 /\ zs = mkSt [(5, .one (.dat (.int .i64 0))), (1, .one (.dat (.int .i64 k))), (0, .one (.own 0))] [.frz 1 []]) 0 _ (Ent.wk [0]) ⟨rfl, rfl⟩ ?_
  rintro zn zs ⟨rfl, rfl⟩ K hK
  have hd0 : decide ((0 : Int) < ((0 : Nat) : Int)) = false := rfl
  refine sv2 ?_
  apply hK
  refine evl ?_
  refine Fin.nt results89 [0] ?_ ?_ ?_ <;> try trivial
  all_goals exact entd
theorem c42 (x : Heap) (hx : x.sok) (k : Int) (hk0 : 0 <= k) (hk : k + (mcHeap x : Int) <= 4611686018427387904) : Ctr prog 42 [.agg [.own 0, .own 1], .one (.dat (.int .i64 k))] [.vec 1 true (x.Bytes.map encI), .vec 1 true (x.Class.map encI)] (.one (.dat (.int .i64 (k + (mcHeap x : Int))))) [.dead, .dead] := by
 have hmc : mcHeap x = 1 * x.Bytes.length + 1 * x.Class.length := rfl
 obtain ⟨q0, q1, _⟩ := hx
 refine Ctr.bg mixed func42 rfl ?_
 refine evl ?_
 refine scs ?_
 refine CallK_os [0] e89 (by simp [osOk, St.obj, find]) (c89_v x.Bytes (k) (by omega) (by omega)) rfl ?_
 refine evl ?_
 refine scs ?_
 refine CallK_os [1] e89 (by simp [osOk, St.obj, find]) (c89_v x.Class ((k + 1 * (x.Bytes.length : Int))) (by omega) (by omega)) rfl ?_
 refine evl ?_
 rw [show ((k + 1 * (x.Bytes.length : Int)) + 1 * (x.Class.length : Int)) = k + (mcHeap x : Int) by omega]
 refine Fin.nt results42 [0, 1] ?_ ?_ ?_ <;> try trivial
 all_goals exact entd
theorem c90_v (l : List SList) (hl : l.length <= 1048576) (hq : ∀ x ∈ l, x.sok) (k : Int) (hk0 : 0 <= k) (hk : k + (cntSListS l : Int) <= 4611686018427387904) : Ctr prog 90 [.one (.own 0), .one (.dat (.int .i64 k))] [.vec 1 true (l.map encSList)] (.one (.dat (.int .i64 (k + (cntSListS l : Int))))) [.dead] := by
 refine Ctr.bg mixed func90 rfl ?_
 refine evl ?_
 refine LoopK_intro (fun zn zs => ∃ (i : Nat) (R : List (List D)) (kk : Int), i <= l.length /\ zn = l.length - i /\ (R.length = l.length /\ R.drop i = (l.drop i).map encSList /\ 0 <= kk /\ kk + (cntSListS (l.drop i) : Int) = k + (cntSListS l : Int)) /\ zs = mkSt [(5, .one (.dat (.int .i64 i))), (1, .one (.dat (.int .i64 kk))), (0, .one (.own 0))] [.vec 1 true R]) l.length _
  (Ent.wk [0]) ⟨0, l.map encSList, k, by omega, by omega, ⟨by simp, rfl, hk0, rfl⟩, rfl⟩ ?_
 rintro zn zs ⟨i, R, kk, hi, rfl, ⟨hR1, hR2, hk1, hk2⟩, rfl⟩ K hK
 rcases Nat.lt_or_ge i l.length with hlt | hge
 ·have hd : decide ((i : Int) < ((l.length : Nat) : Int)) = true := decide_eq_true (by omega)
  have hw := wrap_succ hlt (show l.length <= maxLen by unfold maxLen; omega)
  have hqx := hq l[i] (List.getElem_mem hlt)
  rw [List.drop_eq_getElem_cons hlt] at hk2 hR2
  rw [List.map_cons] at hR2
  generalize l[i] = x at hk2 hR2 hqx
  obtain ⟨q0, _⟩ := hqx
  rw [cntSListS_cons] at hk2
  have hcx : cntSList x = 1 * x.Slots.length := rfl
  have hA : (R.take i).length = i := by rw [List.length_take]; omega
  have hR : R = R.take i ++ encSList x :: (l.drop (i + 1)).map encSList := by rw [<- hR2, List.take_append_drop]
  generalize hB : (l.drop (i + 1)).map encSList = B at hR
  generalize R.take i = A at hA hR
  subst hR
  have hl1 : ∀ y, (A ++ y :: B).length = l.length := fun y => by rw [List.length_append, List.length_cons] at hR1 ⊢; exact hR1
  clear hR2
  refine sv3 ?_
  refine scs ?_
  intro v0
  try (refine sv3 ?_)
  refine scs ?_
  refine CallK_os [1] e89 (by simp [osOk, St.obj, find]) (c89_g x.Slots (kk) (by omega) (by omega)) rfl ?_
  refine sv3 ?_
  refine scs ?_
  apply hK
  refine ⟨l.length - (i + 1), _, by omega, Ent.wk [0] (h4 := objsLe_one (Nat.zero_lt_succ _) rfl), i + 1, _, (kk + 1 * (x.Slots.length : Int)), by omega, rfl, ⟨hl1 _, ?_, by omega, by omega⟩, rfl⟩
  rw [drop_mid hA, hB]
 ·have hge' : i = l.length := by omega
  subst hge'
  rw [List.drop_length] at hk2
  have hkk : kk = k + (cntSListS l : Int) := by rw [<- hk2]; simp [cntSListS]
  have hd : decide (((l.length : Nat) : Int) < ((l.length : Nat) : Int)) = false := by simp
  simp (maxSteps := 2000000) only [go_sem, seval, hR1, hd]
  apply hK
  refine evl ?_
  rw [hkk]
  refine Fin.nt results90 [0] ?_ ?_ ?_ <;> try trivial
  all_goals exact entd
theorem c90_g (l : List SList) (hl : l.length <= 1048576) (hq : ∀ x ∈ l, x.sok) (k : Int) (hk0 : 0 <= k) (hk : k + (cntSListS l : Int) <= 4611686018427387904) : Ctr prog 90 [.one (.own 0), .one (.dat (.int .i64 k))] [lent 1 (l.map encSList)] (.one (.dat (.int .i64 (k + (cntSListS l : Int))))) [.dead] := by
 cases l with
 | cons x l => exact c90_v (x :: l) hl hq k hk0 hk
 | nil =>
  show Ctr prog 90 [.one (.own 0), .one (.dat (.int .i64 k))] [.frz 1 []] (.one (.dat (.int .i64 (k + (cntSListS [] : Int))))) [.dead]
  rw [show k + (cntSListS [] : Int) = k by simp [cntSListS]]
  refine Ctr.bg mixed func90 rfl ?_
  refine evl ?_
  refine LoopK_intro (fun zn zs => zn = 0 /\ zs = mkSt [(5, .one (.dat (.int .i64 0))), (1, .one (.dat (.int .i64 k))), (0, .one (.own 0))] [.frz 1 []]) 0 _ (Ent.wk [0]) ⟨rfl, rfl⟩ ?_
  rintro zn zs ⟨rfl, rfl⟩ K hK
  have hd0 : decide ((0 : Int) < ((0 : Nat) : Int)) = false := rfl
  refine sv2 ?_
  apply hK
  refine evl ?_
  refine Fin.nt results90 [0] ?_ ?_ ?_ <;> try trivial
  all_goals exact entd
theorem c43 (x : Lists) (hx : x.sok) (k : Int) (hk0 : 0 <= k) (hk : k + (mcLists x : Int) <= 4611686018427387904) : Ctr prog 43 [.agg [.own 0, .own 1], .one (.dat (.int .i64 k))] [.vec 1 true (x.Global.map encSList), .vec 1 true (x.Own.map encSList)] (.one (.dat (.int .i64 (k + (mcLists x : Int))))) [.dead, .dead] := by
 have hmc : mcLists x = cntSListS x.Global + cntSListS x.Own := rfl
 obtain ⟨q0, q1, q2, q3, _⟩ := hx
 refine Ctr.bg mixed func43 rfl ?_
 refine evl ?_
 refine scs ?_
 refine CallK_os [0] e90 (by simp [osOk, St.obj, find]) (c90_v x.Global q0 q1 (k) (by omega) (by omega)) rfl ?_
 refine evl ?_
 refine scs ?_
 refine CallK_os [1] e90 (by simp [osOk, St.obj, find]) (c90_v x.Own q2 q3 ((k + (cntSListS x.Global : Int))) (by omega) (by omega)) rfl ?_
 refine evl ?_
 rw [show ((k + (cntSListS x.Global : Int)) + (cntSListS x.Own : Int)) = k + (mcLists x : Int) by omega]
 refine Fin.nt results43 [0, 1] ?_ ?_ ?_ <;> try trivial
 all_goals exact entd
theorem c12 (x : Mem) (hx : x.sok) (k : Int) (hk0 : 0 <= k) (hk : k + (mcMem x : Int) <= 4611686018427387904) : Ctr prog 12 [.agg [.own 0, .own 1, .own 2, .own 3], .one (.dat (.int .i64 k))] [.vec 1 true (x.Heap.Bytes.map encI), .vec 1 true (x.Heap.Class.map encI), .vec 1 true (x.Lists.Global.map encSList), .vec 1 true (x.Lists.Own.map encSList)] (.one (.dat (.int .i64 (k + (mcMem x : Int))))) [.dead, .dead, .dead, .dead] := by
 have hmc : mcMem x = mcHeap x.Heap + mcLists x.Lists := rfl
 obtain ⟨q0, q1, _⟩ := hx
 refine Ctr.bg mixed func12 rfl ?_
 refine evl ?_
 refine scs ?_
 refine CallK_os [0, 1] e42 (by simp [osOk, St.obj, find]) (c42 x.Heap q0 (k) (by omega) (by omega)) rfl ?_
 refine evl ?_
 refine scs ?_
 refine CallK_os [2, 3] e43 (by simp [osOk, St.obj, find]) (c43 x.Lists q1 ((k + (mcHeap x.Heap : Int))) (by omega) (by omega)) rfl ?_
 refine evl ?_
 rw [show ((k + (mcHeap x.Heap : Int)) + (mcLists x.Lists : Int)) = k + (mcMem x : Int) by omega]
 refine Fin.nt results12 [0, 1, 2, 3] ?_ ?_ ?_ <;> try trivial
 all_goals exact entd
end Go.Proofs.YtpniplpnggddpaaGreat.Mod
