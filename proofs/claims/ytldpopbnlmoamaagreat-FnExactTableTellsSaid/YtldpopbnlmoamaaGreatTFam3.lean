/- Contracts: Fam3. -/
import Derived.Test.YtldpopbnlmoamaaGreatRows
import Derived.Test.YtldpopbnlmoamaaGreatTTy
import Derived.Test.YtldpopbnlmoamaaGreatAbsTac
import Derived.Test.YtldpopbnlmoamaaGreatAbsData
import Derived.Test.YtldpopbnlmoamaaGreatTSok
import Derived.WalkKit
import Derived.ProofKit
import Derived.OpenShut
namespace Go.Proofs.YtldpopbnlmoamaaGreat.Mod
open Go.Proofs.Tryz Go.Abs Go.Proofs.YtldpopbnlmoamaaGreat.Ty Go.ChangeShapes Go.WideShapes Go.ChangeAt Go.RowKit
set_option linter.unusedSimpArgs false
set_option linter.unusedVariables false
set_option maxHeartbeats 8000000
set_option maxRecDepth 100000
theorem c84 (l : List Int) (k : Int) (hk0 : 0 <= k) (hk : k + 1 * l.length <= 4611686018427387904) : Ctr prog 84 [.one (.own 0), .one (.dat (.int .i64 k))] [.vec 1 true (l.map encI)] (.one (.dat (.int .i64 (k + 1 * l.length)))) [.vec 1 true (markInts k l.length)] := by
 refine Ctr.of_body mixed func84 rfl (by kernel_rfl) (Nat.le_of_ble_eq_true rfl) (by simp [AV.Clean, AV.Clean1, Leaf.Clean, D.flat]) (by simp [AObj.Sep]) (by simp) ?_ (by simp [AV.Low, AV.Low1, Leaf.Low]) ?_
 ·intro o ho
  have : o = 0 := by simpa using ho
  subst this
  simp [Objs, Compat, markInts]
 show wpA _ _ _ (FinQ _ _ _ _ _) _
 unfold markInts
 refine evl ?_
 refine LoopK_intro (fun n s => ∃ i : Nat, i <= l.length /\ n = l.length - i /\ s = mkSt [(5, .one (.dat (.int .i64 i))), (1, .one (.dat (.int .i64 (k + 1 * (i : Nat))))), (0, .one (.own 0))]
   [.vec 1 true ((List.range i).map (fun i => encI (k + 1 * (i : Nat))) ++ (l.drop i).map encI)]) l.length _
  (Ent.wk [0]) ⟨0, by omega, by omega, rfl⟩ ?_
 rintro n s ⟨i, hi, rfl, rfl⟩ K hK
 have hlen : ((List.range i).map (fun i => encI (k + 1 * (i : Nat))) ++ (l.drop i).map encI).length = l.length := by simp; omega
 rcases Nat.lt_or_ge i l.length with hlt | hge
 ·have hA : ((List.range i).map (fun i => encI (k + 1 * (i : Nat)))).length = i := by simp
  have hd : decide ((i : Int) < l.length) = true := by simpa using hlt
  have hw := wrap_succ hlt (show l.length <= maxLen by unfold maxLen; omega)
  have hw1 : IntKind.i64.wrap (k + 1 * (i : Int) + 1) = k + 1 * (i : Int) + 1 := by rw [IntKind.wrap_i64]; omega
  rw [List.drop_eq_getElem_cons hlt, List.map_cons] at hlen ⊢
  generalize hAd : (List.range i).map (fun i => encI (k + 1 * (i : Nat))) = A at hA hlen ⊢
  have hl1 : ∀ x, (A ++ x :: (l.drop (i + 1)).map encI).length = l.length := fun x => by
   rw [List.length_append, List.length_cons] at hlen ⊢; exact hlen
  simp (maxSteps := 2000000) only [go_sem, seval, hl1, hd, set_mid hA, getD_mid hA, encI, hw, hw1, D.flat]
  refine scs ?_
  apply hK
  refine ⟨l.length - (i + 1), _, by omega, Ent.weak (ids := [0]) (by simp) rfl (by simp) ?_ ?_ (by simp [objsLe, envLe, find, St.obj, AObj.renF, AV.renF, AV.renF1, Leaf.renF, LowAll, AV.Low, AV.Low1, Leaf.Low, AObj.Low, Ptr.renF, Ptr.Low]), i + 1, by omega, rfl, rfl⟩
  ·rw [List.range_succ, List.map_append, hAd]
   simp [objsLe, envLe, find, St.obj, AObj.renF, AV.renF, AV.renF1, Leaf.renF, LowAll, AV.Low, AV.Low1, Leaf.Low, AObj.Low, Ptr.renF, Ptr.Low]
   rfl
  ·simp [objsLe, envLe, find, St.obj, AObj.renF, AV.renF, AV.renF1, Leaf.renF, LowAll, AV.Low, AV.Low1, Leaf.Low, AObj.Low, Ptr.renF, Ptr.Low]
   omega
 ·have hge' : i = l.length := by omega
  subst hge'
  have hd : decide ((l.length : Int) < l.length) = false := by simp
  refine sv2 ?_
  apply hK
  refine evl ?_
  refine Fin.nt results84 [0] ?_ ?_ ?_ <;> try trivial
  rw [List.drop_length, List.map_nil, List.append_nil]
  simp [objsLe, envLe, find, St.obj, AObj.renF, AV.renF, AV.renF1, Leaf.renF, LowAll, AV.Low, AV.Low1, Leaf.Low, AObj.Low, Ptr.renF, Ptr.Low]
theorem c84_v (l : List Int) (k : Int) (hk0 : 0 <= k) (hk : k + 1 * l.length <= 4611686018427387904) : Ctr prog 84 [.one (.own 0), .one (.dat (.int .i64 k))] [.vec 1 true (l.map encI)] (.one (.dat (.int .i64 (k + 1 * l.length)))) [.dead] := Ctr.drop (c84 l k hk0 hk) rfl
theorem c84_g (l : List Int) (k : Int) (hk0 : 0 <= k) (hk : k + 1 * l.length <= 4611686018427387904) : Ctr prog 84 [.one (.own 0), .one (.dat (.int .i64 k))] [lent 1 (l.map encI)] (.one (.dat (.int .i64 (k + 1 * l.length)))) [.dead] := by
 cases l with
 | cons x l => exact c84_v (x :: l) k hk0 hk
 | nil =>
  show Ctr prog 84 [.one (.own 0), .one (.dat (.int .i64 k))] [.frz 1 []] (.one (.dat (.int .i64 (k + 1 * ((0 : Nat) : Int))))) [.dead]
  rw [show k + 1 * ((0 : Nat) : Int) = k by omega]
  refine Ctr.bg mixed func84 rfl ?_
  refine evl ?_
  refine LoopK_intro (fun zn zs => zn = 0 /\ zs = mkSt [(5, .one (.dat (.int .i64 0))), (1, .one (.dat (.int .i64 k))), (0, .one (.own 0))] [.frz 1 []]) 0 _ (Ent.wk [0]) ⟨rfl, rfl⟩ ?_
  rintro zn zs ⟨rfl, rfl⟩ K hK
  have hd0 : decide ((0 : Int) < ((0 : Nat) : Int)) = false := rfl
  refine sv5 ?_
  apply hK
  refine evl ?_
  refine Fin.nt results84 [0] ?_ ?_ ?_ <;> try trivial
  all_goals exact entd
theorem c144 (x : Heap) (hx : x.sok) (k : Int) (hk0 : 0 <= k) (hk : k + (mcHeap x : Int) <= 4611686018427387904) : Ctr prog 144 [.agg [.own 0, .own 1], .one (.dat (.int .i64 k))] [.vec 1 true (x.Bytes.map encI), .vec 1 true (x.Class.map encI)] (.one (.dat (.int .i64 (k + (mcHeap x : Int))))) [.dead, .dead] := by
 have hmc : mcHeap x = 1 * x.Bytes.length + 1 * x.Class.length := rfl
 obtain ⟨q0, q1, _⟩ := hx
 refine Ctr.bg mixed func144 rfl ?_
 refine evl ?_
 refine scs ?_
 refine CallK_os [0] e84 (by simp [osOk, St.obj, find]) (c84_v x.Bytes (k) (by omega) (by omega)) rfl ?_
 refine evl ?_
 refine scs ?_
 refine CallK_os [1] e84 (by simp [osOk, St.obj, find]) (c84_v x.Class ((k + 1 * (x.Bytes.length : Int))) (by omega) (by omega)) rfl ?_
 refine evl ?_
 rw [show ((k + 1 * (x.Bytes.length : Int)) + 1 * (x.Class.length : Int)) = k + (mcHeap x : Int) by omega]
 refine Fin.nt results144 [0, 1] ?_ ?_ ?_ <;> try trivial
 all_goals exact entd
theorem c178_v (l : List SList) (hl : l.length <= 1048576) (hq : ∀ x ∈ l, x.sok) (k : Int) (hk0 : 0 <= k) (hk : k + (cntSListS l : Int) <= 4611686018427387904) : Ctr prog 178 [.one (.own 0), .one (.dat (.int .i64 k))] [.vec 1 true (l.map encSList)] (.one (.dat (.int .i64 (k + (cntSListS l : Int))))) [.dead] := by
 refine Ctr.bg mixed func178 rfl ?_
 refine evl ?_
 refine LoopK_intro (fun zn zs => ∃ (i : Nat) (R : List (List D)) (kk : Int), i <= l.length /\ zn = l.length - i /\ (R.length = l.length /\ R.drop i = (l.drop i).map encSList /\ 0 <= kk /\ kk + (cntSListS (l.drop i) : Int) = k + (cntSListS l : Int)) /\ zs = mkSt [(5, .one (.dat (.int .i64 i))), (1, .one (.dat (.int .i64 kk))), (0, .one (.own 0))] [.vec 1 true R]) l.length _
  (Ent.wk [0]) ⟨0, l.map encSList, k, by omega, by omega, ⟨by simp, rfl, hk0, rfl⟩, rfl⟩ ?_
 rintro zn zs ⟨i, R, kk, hi, rfl, ⟨hR1, hR2, hk1, hk2⟩, rfl⟩ K hK
 rcases Nat.lt_or_ge i l.length with hlt | hge
 ·have hd : decide ((i : Int) < ((l.length : Nat) : Int)) = true := decide_eq_true (by omega)
  have hw := wrap_succ hlt (show l.length <= maxLen by unfold maxLen; omega)
  have hqx := hq l[i] (List.getElem_mem hlt)
  rw [List.drop_eq_getElem_cons hlt] at hk2 hR2
  rw [List.map_cons] at hR2
  generalize l[i] = x at hk2 hR2 hqx
  obtain ⟨q0, _⟩ := hqx
  rw [cntSListS_cons] at hk2
  have hcx : cntSList x = 1 * x.Slots.length := rfl
  have hA : (R.take i).length = i := by rw [List.length_take]; omega
  have hR : R = R.take i ++ encSList x :: (l.drop (i + 1)).map encSList := by rw [<- hR2, List.take_append_drop]
  generalize hB : (l.drop (i + 1)).map encSList = B at hR
  generalize R.take i = A at hA hR
  subst hR
  have hl1 : ∀ y, (A ++ y :: B).length = l.length := fun y => by rw [List.length_append, List.length_cons] at hR1 ⊢; exact hR1
  clear hR2
  refine sv6 ?_
  refine scs ?_
  intro v0
  try (refine sv6 ?_)
  refine scs ?_
  refine CallK_os [1] e84 (by simp [osOk, St.obj, find]) (c84_g x.Slots (kk) (by omega) (by omega)) rfl ?_
  refine sv6 ?_
  refine scs ?_
  apply hK
  refine ⟨l.length - (i + 1), _, by omega, Ent.wk [0] (h4 := objsLe_one (Nat.zero_lt_succ _) rfl), i + 1, _, (kk + 1 * (x.Slots.length : Int)), by omega, rfl, ⟨hl1 _, ?_, by omega, by omega⟩, rfl⟩
  rw [drop_mid hA, hB]
 ·have hge' : i = l.length := by omega
  subst hge'
  rw [List.drop_length] at hk2
  have hkk : kk = k + (cntSListS l : Int) := by rw [<- hk2]; simp [cntSListS]
  have hd : decide (((l.length : Nat) : Int) < ((l.length : Nat) : Int)) = false := by simp
  refine sv7 ?_
  apply hK
  refine evl ?_
  rw [hkk]
  refine Fin.nt results178 [0] ?_ ?_ ?_ <;> try trivial
  all_goals exact entd
theorem c178_g (l : List SList) (hl : l.length <= 1048576) (hq : ∀ x ∈ l, x.sok) (k : Int) (hk0 : 0 <= k) (hk : k + (cntSListS l : Int) <= 4611686018427387904) : Ctr prog 178 [.one (.own 0), .one (.dat (.int .i64 k))] [lent 1 (l.map encSList)] (.one (.dat (.int .i64 (k + (cntSListS l : Int))))) [.dead] := by
 cases l with
 | cons x l => exact c178_v (x :: l) hl hq k hk0 hk
 | nil =>
  show Ctr prog 178 [.one (.own 0), .one (.dat (.int .i64 k))] [.frz 1 []] (.one (.dat (.int .i64 (k + (cntSListS [] : Int))))) [.dead]
  rw [show k + (cntSListS [] : Int) = k by simp [cntSListS]]
  refine Ctr.bg mixed func178 rfl ?_
  refine evl ?_
  refine LoopK_intro (fun zn zs => zn = 0 /\ zs = mkSt [(5, .one (.dat (.int .i64 0))), (1, .one (.dat (.int .i64 k))), (0, .one (.own 0))] [.frz 1 []]) 0 _ (Ent.wk [0]) ⟨rfl, rfl⟩ ?_
  rintro zn zs ⟨rfl, rfl⟩ K hK
  have hd0 : decide ((0 : Int) < ((0 : Nat) : Int)) = false := rfl
  refine sv5 ?_
  apply hK
  refine evl ?_
  refine Fin.nt results178 [0] ?_ ?_ ?_ <;> try trivial
  all_goals exact entd
theorem c145 (x : Lists) (hx : x.sok) (k : Int) (hk0 : 0 <= k) (hk : k + (mcLists x : Int) <= 4611686018427387904) : Ctr prog 145 [.agg [.own 0, .own 1], .one (.dat (.int .i64 k))] [.vec 1 true (x.Global.map encSList), .vec 1 true (x.Own.map encSList)] (.one (.dat (.int .i64 (k + (mcLists x : Int))))) [.dead, .dead] := by
 have hmc : mcLists x = cntSListS x.Global + cntSListS x.Own := rfl
 obtain ⟨q0, q1, q2, q3, _⟩ := hx
 refine Ctr.bg mixed func145 rfl ?_
 refine evl ?_
 refine scs ?_
 refine CallK_os [0] e178 (by simp [osOk, St.obj, find]) (c178_v x.Global q0 q1 (k) (by omega) (by omega)) rfl ?_
 refine evl ?_
 refine scs ?_
 refine CallK_os [1] e178 (by simp [osOk, St.obj, find]) (c178_v x.Own q2 q3 ((k + (cntSListS x.Global : Int))) (by omega) (by omega)) rfl ?_
 refine evl ?_
 rw [show ((k + (cntSListS x.Global : Int)) + (cntSListS x.Own : Int)) = k + (mcLists x : Int) by omega]
 refine Fin.nt results145 [0, 1] ?_ ?_ ?_ <;> try trivial
 all_goals exact entd
theorem c81 (x : Mem) (hx : x.sok) (k : Int) (hk0 : 0 <= k) (hk : k + (mcMem x : Int) <= 4611686018427387904) : Ctr prog 81 [.agg [.own 0, .own 1, .own 2, .own 3], .one (.dat (.int .i64 k))] [.vec 1 true (x.Heap.Bytes.map encI), .vec 1 true (x.Heap.Class.map encI), .vec 1 true (x.Lists.Global.map encSList), .vec 1 true (x.Lists.Own.map encSList)] (.one (.dat (.int .i64 (k + (mcMem x : Int))))) [.dead, .dead, .dead, .dead] := by
 have hmc : mcMem x = mcHeap x.Heap + mcLists x.Lists := rfl
 obtain ⟨q0, q1, _⟩ := hx
 refine Ctr.bg mixed func81 rfl ?_
 refine evl ?_
 refine scs ?_
 refine CallK_os [0, 1] e144 (by simp [osOk, St.obj, find]) (c144 x.Heap q0 (k) (by omega) (by omega)) rfl ?_
 refine evl ?_
 refine scs ?_
 refine CallK_os [2, 3] e145 (by simp [osOk, St.obj, find]) (c145 x.Lists q1 ((k + (mcHeap x.Heap : Int))) (by omega) (by omega)) rfl ?_
 refine evl ?_
 rw [show ((k + (mcHeap x.Heap : Int)) + (mcLists x.Lists : Int)) = k + (mcMem x : Int) by omega]
 refine Fin.nt results81 [0, 1, 2, 3] ?_ ?_ ?_ <;> try trivial
 all_goals exact entd
theorem c146_v (l : List Pin) (k : Int) (hk0 : 0 <= k) (hk : k + 4 * l.length <= 4611686018427387904) : Ctr prog 146 [.one (.own 0), .one (.dat (.int .i64 k))] [.vec 4 true (l.map encPin)] (.one (.dat (.int .i64 (k + 4 * l.length)))) [.dead] := Ctr.drop (c146 l k hk0 hk) rfl
theorem c146_g (l : List Pin) (k : Int) (hk0 : 0 <= k) (hk : k + 4 * l.length <= 4611686018427387904) : Ctr prog 146 [.one (.own 0), .one (.dat (.int .i64 k))] [lent 4 (l.map encPin)] (.one (.dat (.int .i64 (k + 4 * l.length)))) [.dead] := by
 cases l with
 | cons x l => exact c146_v (x :: l) k hk0 hk
 | nil =>
  show Ctr prog 146 [.one (.own 0), .one (.dat (.int .i64 k))] [.frz 4 []] (.one (.dat (.int .i64 (k + 4 * ((0 : Nat) : Int))))) [.dead]
  rw [show k + 4 * ((0 : Nat) : Int) = k by omega]
  refine Ctr.bg mixed func146 rfl ?_
  refine evl ?_
  refine LoopK_intro (fun zn zs => zn = 0 /\ zs = mkSt [(5, .one (.dat (.int .i64 0))), (1, .one (.dat (.int .i64 k))), (0, .one (.own 0))] [.frz 4 []]) 0 _ (Ent.wk [0]) ⟨rfl, rfl⟩ ?_
  rintro zn zs ⟨rfl, rfl⟩ K hK
  have hd0 : decide ((0 : Int) < ((0 : Nat) : Int)) = false := rfl
  refine sv5 ?_
  apply hK
  refine evl ?_
  refine Fin.nt results146 [0] ?_ ?_ ?_ <;> try trivial
  all_goals exact entd
theorem c82 (x : Clock) (hx : x.sok) (k : Int) (hk0 : 0 <= k) (hk : k + (mcClock x : Int) <= 4611686018427387904) : Ctr prog 82 [.agg [.dat (.int .i64 x.Epoch), .own 0], .one (.dat (.int .i64 k))] [.vec 4 true (x.Pins.map encPin)] (.one (.dat (.int .i64 (k + (mcClock x : Int))))) [.dead] := by
 have hmc : mcClock x = 4 * x.Pins.length := rfl
 obtain ⟨q0, _⟩ := hx
 refine Ctr.bg mixed func82 rfl ?_
 refine evl ?_
 refine scs ?_
 refine CallK_os [0] e146 (by simp [osOk, St.obj, find]) (c146_v x.Pins (k) (by omega) (by omega)) rfl ?_
 refine evl ?_
 rw [show (k + 4 * (x.Pins.length : Int)) = k + (mcClock x : Int) by omega]
 refine Fin.nt results82 [0] ?_ ?_ ?_ <;> try trivial
 all_goals exact entd
theorem c147_v (l : List LRow) (k : Int) (hk0 : 0 <= k) (hk : k + 2 * l.length <= 4611686018427387904) : Ctr prog 147 [.one (.own 0), .one (.dat (.int .i64 k))] [.vec 2 true (l.map encLRow)] (.one (.dat (.int .i64 (k + 2 * l.length)))) [.dead] := Ctr.drop (c147 l k hk0 hk) rfl
theorem c147_g (l : List LRow) (k : Int) (hk0 : 0 <= k) (hk : k + 2 * l.length <= 4611686018427387904) : Ctr prog 147 [.one (.own 0), .one (.dat (.int .i64 k))] [lent 2 (l.map encLRow)] (.one (.dat (.int .i64 (k + 2 * l.length)))) [.dead] := by
 cases l with
 | cons x l => exact c147_v (x :: l) k hk0 hk
 | nil =>
  show Ctr prog 147 [.one (.own 0), .one (.dat (.int .i64 k))] [.frz 2 []] (.one (.dat (.int .i64 (k + 2 * ((0 : Nat) : Int))))) [.dead]
  rw [show k + 2 * ((0 : Nat) : Int) = k by omega]
  refine Ctr.bg mixed func147 rfl ?_
  refine evl ?_
  refine LoopK_intro (fun zn zs => zn = 0 /\ zs = mkSt [(5, .one (.dat (.int .i64 0))), (1, .one (.dat (.int .i64 k))), (0, .one (.own 0))] [.frz 2 []]) 0 _ (Ent.wk [0]) ⟨rfl, rfl⟩ ?_
  rintro zn zs ⟨rfl, rfl⟩ K hK
  have hd0 : decide ((0 : Int) < ((0 : Nat) : Int)) = false := rfl
  refine sv5 ?_
  apply hK
  refine evl ?_
  refine Fin.nt results147 [0] ?_ ?_ ?_ <;> try trivial
  all_goals exact entd
theorem c83_v (l : List LList) (hl : l.length <= 1048576) (hq : ∀ x ∈ l, x.sok) (k : Int) (hk0 : 0 <= k) (hk : k + (cntLListS l : Int) <= 4611686018427387904) : Ctr prog 83 [.one (.own 0), .one (.dat (.int .i64 k))] [.vec 1 true (l.map encLList)] (.one (.dat (.int .i64 (k + (cntLListS l : Int))))) [.dead] := by
 refine Ctr.bg mixed func83 rfl ?_
 refine evl ?_
 refine LoopK_intro (fun zn zs => ∃ (i : Nat) (R : List (List D)) (kk : Int), i <= l.length /\ zn = l.length - i /\ (R.length = l.length /\ R.drop i = (l.drop i).map encLList /\ 0 <= kk /\ kk + (cntLListS (l.drop i) : Int) = k + (cntLListS l : Int)) /\ zs = mkSt [(5, .one (.dat (.int .i64 i))), (1, .one (.dat (.int .i64 kk))), (0, .one (.own 0))] [.vec 1 true R]) l.length _
  (Ent.wk [0]) ⟨0, l.map encLList, k, by omega, by omega, ⟨by simp, rfl, hk0, rfl⟩, rfl⟩ ?_
 rintro zn zs ⟨i, R, kk, hi, rfl, ⟨hR1, hR2, hk1, hk2⟩, rfl⟩ K hK
 rcases Nat.lt_or_ge i l.length with hlt | hge
 ·have hd : decide ((i : Int) < ((l.length : Nat) : Int)) = true := decide_eq_true (by omega)
  have hw := wrap_succ hlt (show l.length <= maxLen by unfold maxLen; omega)
  have hqx := hq l[i] (List.getElem_mem hlt)
  rw [List.drop_eq_getElem_cons hlt] at hk2 hR2
  rw [List.map_cons] at hR2
  generalize l[i] = x at hk2 hR2 hqx
  obtain ⟨q0, _⟩ := hqx
  rw [cntLListS_cons] at hk2
  have hcx : cntLList x = 2 * x.Rows.length := rfl
  have hA : (R.take i).length = i := by rw [List.length_take]; omega
  have hR : R = R.take i ++ encLList x :: (l.drop (i + 1)).map encLList := by rw [<- hR2, List.take_append_drop]
  generalize hB : (l.drop (i + 1)).map encLList = B at hR
  generalize R.take i = A at hA hR
  subst hR
  have hl1 : ∀ y, (A ++ y :: B).length = l.length := fun y => by rw [List.length_append, List.length_cons] at hR1 ⊢; exact hR1
  clear hR2
  refine sv8 ?_
  refine scs ?_
  intro v0
  try (refine sv8 ?_)
  refine scs ?_
  refine CallK_os [1] e147 (by simp [osOk, St.obj, find]) (c147_g x.Rows (kk) (by omega) (by omega)) rfl ?_
  refine sv8 ?_
  refine scs ?_
  apply hK
  refine ⟨l.length - (i + 1), _, by omega, Ent.wk [0] (h4 := objsLe_one (Nat.zero_lt_succ _) rfl), i + 1, _, (kk + 2 * (x.Rows.length : Int)), by omega, rfl, ⟨hl1 _, ?_, by omega, by omega⟩, rfl⟩
  rw [drop_mid hA, hB]
 ·have hge' : i = l.length := by omega
  subst hge'
  rw [List.drop_length] at hk2
  have hkk : kk = k + (cntLListS l : Int) := by rw [<- hk2]; simp [cntLListS]
  have hd : decide (((l.length : Nat) : Int) < ((l.length : Nat) : Int)) = false := by simp
  refine sv7 ?_
  apply hK
  refine evl ?_
  rw [hkk]
  refine Fin.nt results83 [0] ?_ ?_ ?_ <;> try trivial
  all_goals exact entd
theorem c83_g (l : List LList) (hl : l.length <= 1048576) (hq : ∀ x ∈ l, x.sok) (k : Int) (hk0 : 0 <= k) (hk : k + (cntLListS l : Int) <= 4611686018427387904) : Ctr prog 83 [.one (.own 0), .one (.dat (.int .i64 k))] [lent 1 (l.map encLList)] (.one (.dat (.int .i64 (k + (cntLListS l : Int))))) [.dead] := by
 cases l with
 | cons x l => exact c83_v (x :: l) hl hq k hk0 hk
 | nil =>
  show Ctr prog 83 [.one (.own 0), .one (.dat (.int .i64 k))] [.frz 1 []] (.one (.dat (.int .i64 (k + (cntLListS [] : Int))))) [.dead]
  rw [show k + (cntLListS [] : Int) = k by simp [cntLListS]]
  refine Ctr.bg mixed func83 rfl ?_
  refine evl ?_
  refine LoopK_intro (fun zn zs => zn = 0 /\ zs = mkSt [(5, .one (.dat (.int .i64 0))), (1, .one (.dat (.int .i64 k))), (0, .one (.own 0))] [.frz 1 []]) 0 _ (Ent.wk [0]) ⟨rfl, rfl⟩ ?_
  rintro zn zs ⟨rfl, rfl⟩ K hK
  have hd0 : decide ((0 : Int) < ((0 : Nat) : Int)) = false := rfl
  refine sv5 ?_
  apply hK
  refine evl ?_
  refine Fin.nt results83 [0] ?_ ?_ ?_ <;> try trivial
  all_goals exact entd
theorem c35 (x : Base) (hx : x.sok) (k : Int) (hk0 : 0 <= k) (hk : k + (mcBase x : Int) <= 4611686018427387904) : Ctr prog 35 [.agg [.own 0, .own 1, .own 2, .own 3, .dat (.int .i64 x.Clock.Epoch), .own 4, .own 5, .own 6], .one (.dat (.int .i64 k))] [.vec 1 true (x.Mem.Heap.Bytes.map encI), .vec 1 true (x.Mem.Heap.Class.map encI), .vec 1 true (x.Mem.Lists.Global.map encSList), .vec 1 true (x.Mem.Lists.Own.map encSList), .vec 4 true (x.Clock.Pins.map encPin), .vec 1 true (x.Limbo.map encLList), .vec 1 true (x.Haz.map encI)] (.one (.dat (.int .i64 (k + (mcBase x : Int))))) [.dead, .dead, .dead, .dead, .dead, .dead, .dead] := by
 have hmc : mcBase x = mcMem x.Mem + mcClock x.Clock + cntLListS x.Limbo + 1 * x.Haz.length := rfl
 obtain ⟨q0, q1, q2, q3, q4, _⟩ := hx
 refine Ctr.bg mixed func35 rfl ?_
 refine evl ?_
 refine scs ?_
 refine CallK_os [0, 1, 2, 3] e81 (by simp [osOk, St.obj, find]) (c81 x.Mem q0 (k) (by omega) (by omega)) rfl ?_
 refine evl ?_
 refine scs ?_
 refine CallK_os [4] e82 (by simp [osOk, St.obj, find]) (c82 x.Clock q1 ((k + (mcMem x.Mem : Int))) (by omega) (by omega)) rfl ?_
 refine evl ?_
 refine scs ?_
 refine CallK_os [5] e83 (by simp [osOk, St.obj, find]) (c83_v x.Limbo q2 q3 (((k + (mcMem x.Mem : Int)) + (mcClock x.Clock : Int))) (by omega) (by omega)) rfl ?_
 refine evl ?_
 refine scs ?_
 refine CallK_os [6] e84 (by simp [osOk, St.obj, find]) (c84_v x.Haz ((((k + (mcMem x.Mem : Int)) + (mcClock x.Clock : Int)) + (cntLListS x.Limbo : Int))) (by omega) (by omega)) rfl ?_
 refine evl ?_
 rw [show ((((k + (mcMem x.Mem : Int)) + (mcClock x.Clock : Int)) + (cntLListS x.Limbo : Int)) + 1 * (x.Haz.length : Int)) = k + (mcBase x : Int) by omega]
 refine Fin.nt results35 [0, 1, 2, 3, 4, 5, 6] ?_ ?_ ?_ <;> try trivial
 all_goals exact entd
theorem c36_v (l : List Bkt) (k : Int) (hk0 : 0 <= k) (hk : k + 3 * l.length <= 4611686018427387904) : Ctr prog 36 [.one (.own 0), .one (.dat (.int .i64 k))] [.vec 3 true (l.map encBkt)] (.one (.dat (.int .i64 (k + 3 * l.length)))) [.dead] := Ctr.drop (c36 l k hk0 hk) rfl
theorem c36_g (l : List Bkt) (k : Int) (hk0 : 0 <= k) (hk : k + 3 * l.length <= 4611686018427387904) : Ctr prog 36 [.one (.own 0), .one (.dat (.int .i64 k))] [lent 3 (l.map encBkt)] (.one (.dat (.int .i64 (k + 3 * l.length)))) [.dead] := by
 cases l with
 | cons x l => exact c36_v (x :: l) k hk0 hk
 | nil =>
  show Ctr prog 36 [.one (.own 0), .one (.dat (.int .i64 k))] [.frz 3 []] (.one (.dat (.int .i64 (k + 3 * ((0 : Nat) : Int))))) [.dead]
  rw [show k + 3 * ((0 : Nat) : Int) = k by omega]
  refine Ctr.bg mixed func36 rfl ?_
  refine evl ?_
  refine LoopK_intro (fun zn zs => zn = 0 /\ zs = mkSt [(5, .one (.dat (.int .i64 0))), (1, .one (.dat (.int .i64 k))), (0, .one (.own 0))] [.frz 3 []]) 0 _ (Ent.wk [0]) ⟨rfl, rfl⟩ ?_
  rintro zn zs ⟨rfl, rfl⟩ K hK
  have hd0 : decide ((0 : Int) < ((0 : Nat) : Int)) = false := rfl
  refine sv5 ?_
  apply hK
  refine evl ?_
  refine Fin.nt results36 [0] ?_ ?_ ?_ <;> try trivial
  all_goals exact entd
theorem c38_v (l : List Cmd) (k : Int) (hk0 : 0 <= k) (hk : k + 3 * l.length <= 4611686018427387904) : Ctr prog 38 [.one (.own 0), .one (.dat (.int .i64 k))] [.vec 3 true (l.map encCmd)] (.one (.dat (.int .i64 (k + 3 * l.length)))) [.dead] := Ctr.drop (c38 l k hk0 hk) rfl
theorem c38_g (l : List Cmd) (k : Int) (hk0 : 0 <= k) (hk : k + 3 * l.length <= 4611686018427387904) : Ctr prog 38 [.one (.own 0), .one (.dat (.int .i64 k))] [lent 3 (l.map encCmd)] (.one (.dat (.int .i64 (k + 3 * l.length)))) [.dead] := by
 cases l with
 | cons x l => exact c38_v (x :: l) k hk0 hk
 | nil =>
  show Ctr prog 38 [.one (.own 0), .one (.dat (.int .i64 k))] [.frz 3 []] (.one (.dat (.int .i64 (k + 3 * ((0 : Nat) : Int))))) [.dead]
  rw [show k + 3 * ((0 : Nat) : Int) = k by omega]
  refine Ctr.bg mixed func38 rfl ?_
  refine evl ?_
  refine LoopK_intro (fun zn zs => zn = 0 /\ zs = mkSt [(5, .one (.dat (.int .i64 0))), (1, .one (.dat (.int .i64 k))), (0, .one (.own 0))] [.frz 3 []]) 0 _ (Ent.wk [0]) ⟨rfl, rfl⟩ ?_
  rintro zn zs ⟨rfl, rfl⟩ K hK
  have hd0 : decide ((0 : Int) < ((0 : Nat) : Int)) = false := rfl
  refine sv5 ?_
  apply hK
  refine evl ?_
  refine Fin.nt results38 [0] ?_ ?_ ?_ <;> try trivial
  all_goals exact entd
theorem c85_v (l : List Seen) (k : Int) (hk0 : 0 <= k) (hk : k + 2 * l.length <= 4611686018427387904) : Ctr prog 85 [.one (.own 0), .one (.dat (.int .i64 k))] [.vec 2 true (l.map encSeen)] (.one (.dat (.int .i64 (k + 2 * l.length)))) [.dead] := Ctr.drop (c85 l k hk0 hk) rfl
theorem c85_g (l : List Seen) (k : Int) (hk0 : 0 <= k) (hk : k + 2 * l.length <= 4611686018427387904) : Ctr prog 85 [.one (.own 0), .one (.dat (.int .i64 k))] [lent 2 (l.map encSeen)] (.one (.dat (.int .i64 (k + 2 * l.length)))) [.dead] := by
 cases l with
 | cons x l => exact c85_v (x :: l) k hk0 hk
 | nil =>
  show Ctr prog 85 [.one (.own 0), .one (.dat (.int .i64 k))] [.frz 2 []] (.one (.dat (.int .i64 (k + 2 * ((0 : Nat) : Int))))) [.dead]
  rw [show k + 2 * ((0 : Nat) : Int) = k by omega]
  refine Ctr.bg mixed func85 rfl ?_
  refine evl ?_
  refine LoopK_intro (fun zn zs => zn = 0 /\ zs = mkSt [(5, .one (.dat (.int .i64 0))), (1, .one (.dat (.int .i64 k))), (0, .one (.own 0))] [.frz 2 []]) 0 _ (Ent.wk [0]) ⟨rfl, rfl⟩ ?_
  rintro zn zs ⟨rfl, rfl⟩ K hK
  have hd0 : decide ((0 : Int) < ((0 : Nat) : Int)) = false := rfl
  refine sv5 ?_
  apply hK
  refine evl ?_
  refine Fin.nt results85 [0] ?_ ?_ ?_ <;> try trivial
  all_goals exact entd
theorem c86_v (l : List Write) (k : Int) (hk0 : 0 <= k) (hk : k + 3 * l.length <= 4611686018427387904) : Ctr prog 86 [.one (.own 0), .one (.dat (.int .i64 k))] [.vec 3 true (l.map encWrite)] (.one (.dat (.int .i64 (k + 3 * l.length)))) [.dead] := Ctr.drop (c86 l k hk0 hk) rfl
theorem c86_g (l : List Write) (k : Int) (hk0 : 0 <= k) (hk : k + 3 * l.length <= 4611686018427387904) : Ctr prog 86 [.one (.own 0), .one (.dat (.int .i64 k))] [lent 3 (l.map encWrite)] (.one (.dat (.int .i64 (k + 3 * l.length)))) [.dead] := by
 cases l with
 | cons x l => exact c86_v (x :: l) k hk0 hk
 | nil =>
  show Ctr prog 86 [.one (.own 0), .one (.dat (.int .i64 k))] [.frz 3 []] (.one (.dat (.int .i64 (k + 3 * ((0 : Nat) : Int))))) [.dead]
  rw [show k + 3 * ((0 : Nat) : Int) = k by omega]
  refine Ctr.bg mixed func86 rfl ?_
  refine evl ?_
  refine LoopK_intro (fun zn zs => zn = 0 /\ zs = mkSt [(5, .one (.dat (.int .i64 0))), (1, .one (.dat (.int .i64 k))), (0, .one (.own 0))] [.frz 3 []]) 0 _ (Ent.wk [0]) ⟨rfl, rfl⟩ ?_
  rintro zn zs ⟨rfl, rfl⟩ K hK
  have hd0 : decide ((0 : Int) < ((0 : Nat) : Int)) = false := rfl
  refine sv5 ?_
  apply hK
  refine evl ?_
  refine Fin.nt results86 [0] ?_ ?_ ?_ <;> try trivial
  all_goals exact entd
theorem c51_v (l : List Batch) (hl : l.length <= 1048576) (hq : ∀ x ∈ l, x.sok) (k : Int) (hk0 : 0 <= k) (hk : k + (cntBatchS l : Int) <= 4611686018427387904) : Ctr prog 51 [.one (.own 0), .one (.dat (.int .i64 k))] [.vec 2 true (l.map encBatch)] (.one (.dat (.int .i64 (k + (cntBatchS l : Int))))) [.dead] := by
 refine Ctr.bg mixed func51 rfl ?_
 refine evl ?_
 refine LoopK_intro (fun zn zs => ∃ (i : Nat) (R : List (List D)) (kk : Int), i <= l.length /\ zn = l.length - i /\ (R.length = l.length /\ R.drop i = (l.drop i).map encBatch /\ 0 <= kk /\ kk + (cntBatchS (l.drop i) : Int) = k + (cntBatchS l : Int)) /\ zs = mkSt [(5, .one (.dat (.int .i64 i))), (1, .one (.dat (.int .i64 kk))), (0, .one (.own 0))] [.vec 2 true R]) l.length _
  (Ent.wk [0]) ⟨0, l.map encBatch, k, by omega, by omega, ⟨by simp, rfl, hk0, rfl⟩, rfl⟩ ?_
 rintro zn zs ⟨i, R, kk, hi, rfl, ⟨hR1, hR2, hk1, hk2⟩, rfl⟩ K hK
 rcases Nat.lt_or_ge i l.length with hlt | hge
 ·have hd : decide ((i : Int) < ((l.length : Nat) : Int)) = true := decide_eq_true (by omega)
  have hw := wrap_succ hlt (show l.length <= maxLen by unfold maxLen; omega)
  have hqx := hq l[i] (List.getElem_mem hlt)
  rw [List.drop_eq_getElem_cons hlt] at hk2 hR2
  rw [List.map_cons] at hR2
  generalize l[i] = x at hk2 hR2 hqx
  obtain ⟨q0, _⟩ := hqx
  rw [cntBatchS_cons] at hk2
  have hcx : cntBatch x = 1 + 3 * x.Cmds.length := rfl
  have hA : (R.take i).length = i := by rw [List.length_take]; omega
  have hR : R = R.take i ++ encBatch x :: (l.drop (i + 1)).map encBatch := by rw [<- hR2, List.take_append_drop]
  generalize hB : (l.drop (i + 1)).map encBatch = B at hR
  generalize R.take i = A at hA hR
  subst hR
  have hl1 : ∀ y, (A ++ y :: B).length = l.length := fun y => by rw [List.length_append, List.length_cons] at hR1 ⊢; exact hR1
  clear hR2
  obtain ⟨k1, hk1e⟩ : ∃ z, z = kk + 1 := ⟨_, rfl⟩
  have hw1 : IntKind.i64.wrap (kk + 1) = k1 := by rw [hk1e, IntKind.wrap_i64]; omega
  refine sv9 ?_
  refine scs ?_
  intro v0
  try (refine sv9 ?_)
  refine scs ?_
  refine CallK_os [1] e38 (by simp [osOk, St.obj, find]) (c38_g x.Cmds (k1) (by omega) (by omega)) rfl ?_
  refine sv9 ?_
  refine scs ?_
  apply hK
  refine ⟨l.length - (i + 1), _, by omega, Ent.wk [0] (h4 := objsLe_one (Nat.zero_lt_succ _) rfl), i + 1, _, (k1 + 3 * (x.Cmds.length : Int)), by omega, rfl, ⟨hl1 _, ?_, by omega, by omega⟩, rfl⟩
  rw [drop_mid hA, hB]
 ·have hge' : i = l.length := by omega
  subst hge'
  rw [List.drop_length] at hk2
  have hkk : kk = k + (cntBatchS l : Int) := by rw [<- hk2]; simp [cntBatchS]
  have hd : decide (((l.length : Nat) : Int) < ((l.length : Nat) : Int)) = false := by simp
  refine sv7 ?_
  apply hK
  refine evl ?_
  rw [hkk]
  refine Fin.nt results51 [0] ?_ ?_ ?_ <;> try trivial
  all_goals exact entd
theorem c51_g (l : List Batch) (hl : l.length <= 1048576) (hq : ∀ x ∈ l, x.sok) (k : Int) (hk0 : 0 <= k) (hk : k + (cntBatchS l : Int) <= 4611686018427387904) : Ctr prog 51 [.one (.own 0), .one (.dat (.int .i64 k))] [lent 2 (l.map encBatch)] (.one (.dat (.int .i64 (k + (cntBatchS l : Int))))) [.dead] := by
 cases l with
 | cons x l => exact c51_v (x :: l) hl hq k hk0 hk
 | nil =>
  show Ctr prog 51 [.one (.own 0), .one (.dat (.int .i64 k))] [.frz 2 []] (.one (.dat (.int .i64 (k + (cntBatchS [] : Int))))) [.dead]
  rw [show k + (cntBatchS [] : Int) = k by simp [cntBatchS]]
  refine Ctr.bg mixed func51 rfl ?_
  refine evl ?_
  refine LoopK_intro (fun zn zs => zn = 0 /\ zs = mkSt [(5, .one (.dat (.int .i64 0))), (1, .one (.dat (.int .i64 k))), (0, .one (.own 0))] [.frz 2 []]) 0 _ (Ent.wk [0]) ⟨rfl, rfl⟩ ?_
  rintro zn zs ⟨rfl, rfl⟩ K hK
  have hd0 : decide ((0 : Int) < ((0 : Nat) : Int)) = false := rfl
  refine sv5 ?_
  apply hK
  refine evl ?_
  refine Fin.nt results51 [0] ?_ ?_ ?_ <;> try trivial
  all_goals exact entd
theorem c19_v (l : List TQueue) (hl : l.length <= 1048576) (hq : ∀ x ∈ l, x.sok) (k : Int) (hk0 : 0 <= k) (hk : k + (cntTQueueS l : Int) <= 4611686018427387904) : Ctr prog 19 [.one (.own 0), .one (.dat (.int .i64 k))] [.vec 1 true (l.map encTQueue)] (.one (.dat (.int .i64 (k + (cntTQueueS l : Int))))) [.dead] := by
 refine Ctr.bg mixed func19 rfl ?_
 refine evl ?_
 refine LoopK_intro (fun zn zs => ∃ (i : Nat) (R : List (List D)) (kk : Int), i <= l.length /\ zn = l.length - i /\ (R.length = l.length /\ R.drop i = (l.drop i).map encTQueue /\ 0 <= kk /\ kk + (cntTQueueS (l.drop i) : Int) = k + (cntTQueueS l : Int)) /\ zs = mkSt [(5, .one (.dat (.int .i64 i))), (1, .one (.dat (.int .i64 kk))), (0, .one (.own 0))] [.vec 1 true R]) l.length _
  (Ent.wk [0]) ⟨0, l.map encTQueue, k, by omega, by omega, ⟨by simp, rfl, hk0, rfl⟩, rfl⟩ ?_
 rintro zn zs ⟨i, R, kk, hi, rfl, ⟨hR1, hR2, hk1, hk2⟩, rfl⟩ K hK
 rcases Nat.lt_or_ge i l.length with hlt | hge
 ·have hd : decide ((i : Int) < ((l.length : Nat) : Int)) = true := decide_eq_true (by omega)
  have hw := wrap_succ hlt (show l.length <= maxLen by unfold maxLen; omega)
  have hqx := hq l[i] (List.getElem_mem hlt)
  rw [List.drop_eq_getElem_cons hlt] at hk2 hR2
  rw [List.map_cons] at hR2
  generalize l[i] = x at hk2 hR2 hqx
  obtain ⟨q0, q1, _⟩ := hqx
  rw [cntTQueueS_cons] at hk2
  have hcx : cntTQueue x = cntBatchS x.List := rfl
  have hA : (R.take i).length = i := by rw [List.length_take]; omega
  have hR : R = R.take i ++ encTQueue x :: (l.drop (i + 1)).map encTQueue := by rw [<- hR2, List.take_append_drop]
  generalize hB : (l.drop (i + 1)).map encTQueue = B at hR
  generalize R.take i = A at hA hR
  subst hR
  have hl1 : ∀ y, (A ++ y :: B).length = l.length := fun y => by rw [List.length_append, List.length_cons] at hR1 ⊢; exact hR1
  clear hR2
  refine sv10 ?_
  refine scs ?_
  intro v0
  try (refine sv10 ?_)
  refine scs ?_
  refine CallK_os [1] e51 (by simp [osOk, St.obj, find]) (c51_g x.List q0 q1 (kk) (by omega) (by omega)) rfl ?_
  refine sv10 ?_
  refine scs ?_
  apply hK
  refine ⟨l.length - (i + 1), _, by omega, Ent.wk [0] (h4 := objsLe_one (Nat.zero_lt_succ _) rfl), i + 1, _, (kk + (cntBatchS x.List : Int)), by omega, rfl, ⟨hl1 _, ?_, by omega, by omega⟩, rfl⟩
  rw [drop_mid hA, hB]
 ·have hge' : i = l.length := by omega
  subst hge'
  rw [List.drop_length] at hk2
  have hkk : kk = k + (cntTQueueS l : Int) := by rw [<- hk2]; simp [cntTQueueS]
  have hd : decide (((l.length : Nat) : Int) < ((l.length : Nat) : Int)) = false := by simp
  refine sv7 ?_
  apply hK
  refine evl ?_
  rw [hkk]
  refine Fin.nt results19 [0] ?_ ?_ ?_ <;> try trivial
  all_goals exact entd
theorem c19_g (l : List TQueue) (hl : l.length <= 1048576) (hq : ∀ x ∈ l, x.sok) (k : Int) (hk0 : 0 <= k) (hk : k + (cntTQueueS l : Int) <= 4611686018427387904) : Ctr prog 19 [.one (.own 0), .one (.dat (.int .i64 k))] [lent 1 (l.map encTQueue)] (.one (.dat (.int .i64 (k + (cntTQueueS l : Int))))) [.dead] := by
 cases l with
 | cons x l => exact c19_v (x :: l) hl hq k hk0 hk
 | nil =>
  show Ctr prog 19 [.one (.own 0), .one (.dat (.int .i64 k))] [.frz 1 []] (.one (.dat (.int .i64 (k + (cntTQueueS [] : Int))))) [.dead]
  rw [show k + (cntTQueueS [] : Int) = k by simp [cntTQueueS]]
  refine Ctr.bg mixed func19 rfl ?_
  refine evl ?_
  refine LoopK_intro (fun zn zs => zn = 0 /\ zs = mkSt [(5, .one (.dat (.int .i64 0))), (1, .one (.dat (.int .i64 k))), (0, .one (.own 0))] [.frz 1 []]) 0 _ (Ent.wk [0]) ⟨rfl, rfl⟩ ?_
  rintro zn zs ⟨rfl, rfl⟩ K hK
  have hd0 : decide ((0 : Int) < ((0 : Nat) : Int)) = false := rfl
  refine sv5 ?_
  apply hK
  refine evl ?_
  refine Fin.nt results19 [0] ?_ ?_ ?_ <;> try trivial
  all_goals exact entd
theorem c39_v (l : List Res) (k : Int) (hk0 : 0 <= k) (hk : k + 2 * l.length <= 4611686018427387904) : Ctr prog 39 [.one (.own 0), .one (.dat (.int .i64 k))] [.vec 2 true (l.map encRes)] (.one (.dat (.int .i64 (k + 2 * l.length)))) [.dead] := Ctr.drop (c39 l k hk0 hk) rfl
theorem c39_g (l : List Res) (k : Int) (hk0 : 0 <= k) (hk : k + 2 * l.length <= 4611686018427387904) : Ctr prog 39 [.one (.own 0), .one (.dat (.int .i64 k))] [lent 2 (l.map encRes)] (.one (.dat (.int .i64 (k + 2 * l.length)))) [.dead] := by
 cases l with
 | cons x l => exact c39_v (x :: l) k hk0 hk
 | nil =>
  show Ctr prog 39 [.one (.own 0), .one (.dat (.int .i64 k))] [.frz 2 []] (.one (.dat (.int .i64 (k + 2 * ((0 : Nat) : Int))))) [.dead]
  rw [show k + 2 * ((0 : Nat) : Int) = k by omega]
  refine Ctr.bg mixed func39 rfl ?_
  refine evl ?_
  refine LoopK_intro (fun zn zs => zn = 0 /\ zs = mkSt [(5, .one (.dat (.int .i64 0))), (1, .one (.dat (.int .i64 k))), (0, .one (.own 0))] [.frz 2 []]) 0 _ (Ent.wk [0]) ⟨rfl, rfl⟩ ?_
  rintro zn zs ⟨rfl, rfl⟩ K hK
  have hd0 : decide ((0 : Int) < ((0 : Nat) : Int)) = false := rfl
  refine sv5 ?_
  apply hK
  refine evl ?_
  refine Fin.nt results39 [0] ?_ ?_ ?_ <;> try trivial
  all_goals exact entd
theorem c37_v (l : List TJob) (hl : l.length <= 1048576) (hq : ∀ x ∈ l, x.sok) (k : Int) (hk0 : 0 <= k) (hk : k + (cntTJobS l : Int) <= 4611686018427387904) : Ctr prog 37 [.one (.own 0), .one (.dat (.int .i64 k))] [.vec 32 true (l.map encTJob)] (.one (.dat (.int .i64 (k + (cntTJobS l : Int))))) [.dead] := by
 refine Ctr.bg mixed func37 rfl ?_
 refine evl ?_
 refine LoopK_intro (fun zn zs => ∃ (i : Nat) (R : List (List D)) (kk : Int), i <= l.length /\ zn = l.length - i /\ (R.length = l.length /\ R.drop i = (l.drop i).map encTJob /\ 0 <= kk /\ kk + (cntTJobS (l.drop i) : Int) = k + (cntTJobS l : Int)) /\ zs = mkSt [(5, .one (.dat (.int .i64 i))), (1, .one (.dat (.int .i64 kk))), (0, .one (.own 0))] [.vec 32 true R]) l.length _
  (Ent.wk [0]) ⟨0, l.map encTJob, k, by omega, by omega, ⟨by simp, rfl, hk0, rfl⟩, rfl⟩ ?_
 rintro zn zs ⟨i, R, kk, hi, rfl, ⟨hR1, hR2, hk1, hk2⟩, rfl⟩ K hK
 rcases Nat.lt_or_ge i l.length with hlt | hge
 ·have hd : decide ((i : Int) < ((l.length : Nat) : Int)) = true := decide_eq_true (by omega)
  have hw := wrap_succ hlt (show l.length <= maxLen by unfold maxLen; omega)
  have hqx := hq l[i] (List.getElem_mem hlt)
  rw [List.drop_eq_getElem_cons hlt] at hk2 hR2
  rw [List.map_cons] at hR2
  generalize l[i] = x at hk2 hR2 hqx
  obtain ⟨⟨q0, _⟩, q1, q2, q3, q4, q5, q6, _⟩ := hqx
  rw [cntTJobS_cons] at hk2
  have hcx : cntTJob x = 25 + 3 * x.Batch.Cmds.length + 2 * x.Reads.length + 3 * x.Writes.length + 2 * x.Res.length + 1 * x.New.length + 1 * x.Held.length + 1 * x.Olds.length := rfl
  have hA : (R.take i).length = i := by rw [List.length_take]; omega
  have hR : R = R.take i ++ encTJob x :: (l.drop (i + 1)).map encTJob := by rw [<- hR2, List.take_append_drop]
  generalize hB : (l.drop (i + 1)).map encTJob = B at hR
  generalize R.take i = A at hA hR
  subst hR
  have hl1 : ∀ y, (A ++ y :: B).length = l.length := fun y => by rw [List.length_append, List.length_cons] at hR1 ⊢; exact hR1
  clear hR2
  obtain ⟨k1, hk1e⟩ : ∃ z, z = kk + 1 := ⟨_, rfl⟩
  have hw1 : IntKind.i64.wrap (kk + 1) = k1 := by rw [hk1e, IntKind.wrap_i64]; omega
  obtain ⟨k2, hk2e⟩ : ∃ z, z = k1 + 1 := ⟨_, rfl⟩
  have hw2 : IntKind.i64.wrap (k1 + 1) = k2 := by rw [hk2e, IntKind.wrap_i64]; omega
  obtain ⟨k3, hk3e⟩ : ∃ z, z = (k2 + 3 * (x.Batch.Cmds.length : Int)) + 1 := ⟨_, rfl⟩
  have hw3 : IntKind.i64.wrap ((k2 + 3 * (x.Batch.Cmds.length : Int)) + 1) = k3 := by rw [hk3e, IntKind.wrap_i64]; omega
  obtain ⟨k4, hk4e⟩ : ∃ z, z = k3 + 1 := ⟨_, rfl⟩
  have hw4 : IntKind.i64.wrap (k3 + 1) = k4 := by rw [hk4e, IntKind.wrap_i64]; omega
  obtain ⟨k5, hk5e⟩ : ∃ z, z = k4 + 1 := ⟨_, rfl⟩
  have hw5 : IntKind.i64.wrap (k4 + 1) = k5 := by rw [hk5e, IntKind.wrap_i64]; omega
  obtain ⟨k6, hk6e⟩ : ∃ z, z = k5 + 1 := ⟨_, rfl⟩
  have hw6 : IntKind.i64.wrap (k5 + 1) = k6 := by rw [hk6e, IntKind.wrap_i64]; omega
  obtain ⟨k7, hk7e⟩ : ∃ z, z = k6 + 1 := ⟨_, rfl⟩
  have hw7 : IntKind.i64.wrap (k6 + 1) = k7 := by rw [hk7e, IntKind.wrap_i64]; omega
  obtain ⟨k8, hk8e⟩ : ∃ z, z = k7 + 1 := ⟨_, rfl⟩
  have hw8 : IntKind.i64.wrap (k7 + 1) = k8 := by rw [hk8e, IntKind.wrap_i64]; omega
  obtain ⟨k9, hk9e⟩ : ∃ z, z = k8 + 1 := ⟨_, rfl⟩
  have hw9 : IntKind.i64.wrap (k8 + 1) = k9 := by rw [hk9e, IntKind.wrap_i64]; omega
  obtain ⟨k10, hk10e⟩ : ∃ z, z = k9 + 1 := ⟨_, rfl⟩
  have hw10 : IntKind.i64.wrap (k9 + 1) = k10 := by rw [hk10e, IntKind.wrap_i64]; omega
  obtain ⟨k11, hk11e⟩ : ∃ z, z = k10 + 1 := ⟨_, rfl⟩
  have hw11 : IntKind.i64.wrap (k10 + 1) = k11 := by rw [hk11e, IntKind.wrap_i64]; omega
  obtain ⟨k12, hk12e⟩ : ∃ z, z = k11 + 1 := ⟨_, rfl⟩
  have hw12 : IntKind.i64.wrap (k11 + 1) = k12 := by rw [hk12e, IntKind.wrap_i64]; omega
  obtain ⟨k13, hk13e⟩ : ∃ z, z = k12 + 1 := ⟨_, rfl⟩
  have hw13 : IntKind.i64.wrap (k12 + 1) = k13 := by rw [hk13e, IntKind.wrap_i64]; omega
  obtain ⟨k14, hk14e⟩ : ∃ z, z = k13 + 1 := ⟨_, rfl⟩
  have hw14 : IntKind.i64.wrap (k13 + 1) = k14 := by rw [hk14e, IntKind.wrap_i64]; omega
  obtain ⟨k15, hk15e⟩ : ∃ z, z = k14 + 1 := ⟨_, rfl⟩
  have hw15 : IntKind.i64.wrap (k14 + 1) = k15 := by rw [hk15e, IntKind.wrap_i64]; omega
  obtain ⟨k16, hk16e⟩ : ∃ z, z = k15 + 1 := ⟨_, rfl⟩
  have hw16 : IntKind.i64.wrap (k15 + 1) = k16 := by rw [hk16e, IntKind.wrap_i64]; omega
  obtain ⟨k17, hk17e⟩ : ∃ z, z = k16 + 1 := ⟨_, rfl⟩
  have hw17 : IntKind.i64.wrap (k16 + 1) = k17 := by rw [hk17e, IntKind.wrap_i64]; omega
  obtain ⟨k18, hk18e⟩ : ∃ z, z = k17 + 1 := ⟨_, rfl⟩
  have hw18 : IntKind.i64.wrap (k17 + 1) = k18 := by rw [hk18e, IntKind.wrap_i64]; omega
  obtain ⟨k19, hk19e⟩ : ∃ z, z = k18 + 1 := ⟨_, rfl⟩
  have hw19 : IntKind.i64.wrap (k18 + 1) = k19 := by rw [hk19e, IntKind.wrap_i64]; omega
  obtain ⟨k20, hk20e⟩ : ∃ z, z = k19 + 1 := ⟨_, rfl⟩
  have hw20 : IntKind.i64.wrap (k19 + 1) = k20 := by rw [hk20e, IntKind.wrap_i64]; omega
  obtain ⟨k21, hk21e⟩ : ∃ z, z = k20 + 1 := ⟨_, rfl⟩
  have hw21 : IntKind.i64.wrap (k20 + 1) = k21 := by rw [hk21e, IntKind.wrap_i64]; omega
  obtain ⟨k22, hk22e⟩ : ∃ z, z = k21 + 1 := ⟨_, rfl⟩
  have hw22 : IntKind.i64.wrap (k21 + 1) = k22 := by rw [hk22e, IntKind.wrap_i64]; omega
  obtain ⟨k23, hk23e⟩ : ∃ z, z = k22 + 1 := ⟨_, rfl⟩
  have hw23 : IntKind.i64.wrap (k22 + 1) = k23 := by rw [hk23e, IntKind.wrap_i64]; omega
  obtain ⟨k24, hk24e⟩ : ∃ z, z = k23 + 1 := ⟨_, rfl⟩
  have hw24 : IntKind.i64.wrap (k23 + 1) = k24 := by rw [hk24e, IntKind.wrap_i64]; omega
  obtain ⟨k25, hk25e⟩ : ∃ z, z = k24 + 1 := ⟨_, rfl⟩
  have hw25 : IntKind.i64.wrap (k24 + 1) = k25 := by rw [hk25e, IntKind.wrap_i64]; omega
  refine sv11 ?_
  refine scs ?_
  intro v0
  try (refine sv11 ?_)
  refine scs ?_
  refine CallK_os [1] e38 (by simp [osOk, St.obj, find]) (c38_g x.Batch.Cmds (k2) (by omega) (by omega)) rfl ?_
  refine sv11 ?_
  refine scs ?_
  intro v1
  try (refine sv11 ?_)
  refine scs ?_
  refine CallK_os [3] e85 (by simp [osOk, St.obj, find]) (c85_g x.Reads (k25) (by omega) (by omega)) rfl ?_
  refine sv11 ?_
  refine scs ?_
  intro v2
  try (refine sv11 ?_)
  refine scs ?_
  refine CallK_os [5] e86 (by simp [osOk, St.obj, find]) (c86_g x.Writes ((k25 + 2 * (x.Reads.length : Int))) (by omega) (by omega)) rfl ?_
  refine sv11 ?_
  refine scs ?_
  intro v3
  try (refine sv11 ?_)
  refine scs ?_
  refine CallK_os [7] e39 (by simp [osOk, St.obj, find]) (c39_g x.Res (((k25 + 2 * (x.Reads.length : Int)) + 3 * (x.Writes.length : Int))) (by omega) (by omega)) rfl ?_
  refine sv11 ?_
  refine scs ?_
  intro v4
  try (refine sv11 ?_)
  refine scs ?_
  refine CallK_os [9] e84 (by simp [osOk, St.obj, find]) (c84_g x.New ((((k25 + 2 * (x.Reads.length : Int)) + 3 * (x.Writes.length : Int)) + 2 * (x.Res.length : Int))) (by omega) (by omega)) rfl ?_
  refine sv11 ?_
  refine scs ?_
  intro v5
  try (refine sv11 ?_)
  refine scs ?_
  refine CallK_os [11] e84 (by simp [osOk, St.obj, find]) (c84_g x.Held (((((k25 + 2 * (x.Reads.length : Int)) + 3 * (x.Writes.length : Int)) + 2 * (x.Res.length : Int)) + 1 * (x.New.length : Int))) (by omega) (by omega)) rfl ?_
  refine sv11 ?_
  refine scs ?_
  intro v6
  try (refine sv11 ?_)
  refine scs ?_
  refine CallK_os [13] e84 (by simp [osOk, St.obj, find]) (c84_g x.Olds ((((((k25 + 2 * (x.Reads.length : Int)) + 3 * (x.Writes.length : Int)) + 2 * (x.Res.length : Int)) + 1 * (x.New.length : Int)) + 1 * (x.Held.length : Int))) (by omega) (by omega)) rfl ?_
  refine sv11 ?_
  refine scs ?_
  apply hK
  refine ⟨l.length - (i + 1), _, by omega, Ent.wk [0] (h4 := objsLe_one (Nat.zero_lt_succ _) rfl), i + 1, _, ((((((k25 + 2 * (x.Reads.length : Int)) + 3 * (x.Writes.length : Int)) + 2 * (x.Res.length : Int)) + 1 * (x.New.length : Int)) + 1 * (x.Held.length : Int)) + 1 * (x.Olds.length : Int)), by omega, rfl, ⟨hl1 _, ?_, by omega, by omega⟩, rfl⟩
  rw [drop_mid hA, hB]
 ·have hge' : i = l.length := by omega
  subst hge'
  rw [List.drop_length] at hk2
  have hkk : kk = k + (cntTJobS l : Int) := by rw [<- hk2]; simp [cntTJobS]
  have hd : decide (((l.length : Nat) : Int) < ((l.length : Nat) : Int)) = false := by simp
  refine sv7 ?_
  apply hK
  refine evl ?_
  rw [hkk]
  refine Fin.nt results37 [0] ?_ ?_ ?_ <;> try trivial
  all_goals exact entd
theorem c37_g (l : List TJob) (hl : l.length <= 1048576) (hq : ∀ x ∈ l, x.sok) (k : Int) (hk0 : 0 <= k) (hk : k + (cntTJobS l : Int) <= 4611686018427387904) : Ctr prog 37 [.one (.own 0), .one (.dat (.int .i64 k))] [lent 32 (l.map encTJob)] (.one (.dat (.int .i64 (k + (cntTJobS l : Int))))) [.dead] := by
 cases l with
 | cons x l => exact c37_v (x :: l) hl hq k hk0 hk
 | nil =>
  show Ctr prog 37 [.one (.own 0), .one (.dat (.int .i64 k))] [.frz 32 []] (.one (.dat (.int .i64 (k + (cntTJobS [] : Int))))) [.dead]
  rw [show k + (cntTJobS [] : Int) = k by simp [cntTJobS]]
  refine Ctr.bg mixed func37 rfl ?_
  refine evl ?_
  refine LoopK_intro (fun zn zs => zn = 0 /\ zs = mkSt [(5, .one (.dat (.int .i64 0))), (1, .one (.dat (.int .i64 k))), (0, .one (.own 0))] [.frz 32 []]) 0 _ (Ent.wk [0]) ⟨rfl, rfl⟩ ?_
  rintro zn zs ⟨rfl, rfl⟩ K hK
  have hd0 : decide ((0 : Int) < ((0 : Nat) : Int)) = false := rfl
  refine sv5 ?_
  apply hK
  refine evl ?_
  refine Fin.nt results37 [0] ?_ ?_ ?_ <;> try trivial
  all_goals exact entd
theorem c12_v (l : List TEv) (hl : l.length <= 1048576) (hq : ∀ x ∈ l, x.sok) (k : Int) (hk0 : 0 <= k) (hk : k + (cntTEvS l : Int) <= 4611686018427387904) : Ctr prog 12 [.one (.own 0), .one (.dat (.int .i64 k))] [.vec 6 true (l.map encTEv)] (.one (.dat (.int .i64 (k + (cntTEvS l : Int))))) [.dead] := by
 refine Ctr.bg mixed func12 rfl ?_
 refine evl ?_
 refine LoopK_intro (fun zn zs => ∃ (i : Nat) (R : List (List D)) (kk : Int), i <= l.length /\ zn = l.length - i /\ (R.length = l.length /\ R.drop i = (l.drop i).map encTEv /\ 0 <= kk /\ kk + (cntTEvS (l.drop i) : Int) = k + (cntTEvS l : Int)) /\ zs = mkSt [(5, .one (.dat (.int .i64 i))), (1, .one (.dat (.int .i64 kk))), (0, .one (.own 0))] [.vec 6 true R]) l.length _
  (Ent.wk [0]) ⟨0, l.map encTEv, k, by omega, by omega, ⟨by simp, rfl, hk0, rfl⟩, rfl⟩ ?_
 rintro zn zs ⟨i, R, kk, hi, rfl, ⟨hR1, hR2, hk1, hk2⟩, rfl⟩ K hK
 rcases Nat.lt_or_ge i l.length with hlt | hge
 ·have hd : decide ((i : Int) < ((l.length : Nat) : Int)) = true := decide_eq_true (by omega)
  have hw := wrap_succ hlt (show l.length <= maxLen by unfold maxLen; omega)
  have hqx := hq l[i] (List.getElem_mem hlt)
  rw [List.drop_eq_getElem_cons hlt] at hk2 hR2
  rw [List.map_cons] at hR2
  generalize l[i] = x at hk2 hR2 hqx
  obtain ⟨q0, q1, _⟩ := hqx
  rw [cntTEvS_cons] at hk2
  have hcx : cntTEv x = 4 + 3 * x.Cmds.length + 2 * x.Res.length := rfl
  have hA : (R.take i).length = i := by rw [List.length_take]; omega
  have hR : R = R.take i ++ encTEv x :: (l.drop (i + 1)).map encTEv := by rw [<- hR2, List.take_append_drop]
  generalize hB : (l.drop (i + 1)).map encTEv = B at hR
  generalize R.take i = A at hA hR
  subst hR
  have hl1 : ∀ y, (A ++ y :: B).length = l.length := fun y => by rw [List.length_append, List.length_cons] at hR1 ⊢; exact hR1
  clear hR2
  obtain ⟨k1, hk1e⟩ : ∃ z, z = kk + 1 := ⟨_, rfl⟩
  have hw1 : IntKind.i64.wrap (kk + 1) = k1 := by rw [hk1e, IntKind.wrap_i64]; omega
  obtain ⟨k2, hk2e⟩ : ∃ z, z = k1 + 1 := ⟨_, rfl⟩
  have hw2 : IntKind.i64.wrap (k1 + 1) = k2 := by rw [hk2e, IntKind.wrap_i64]; omega
  obtain ⟨k3, hk3e⟩ : ∃ z, z = k2 + 1 := ⟨_, rfl⟩
  have hw3 : IntKind.i64.wrap (k2 + 1) = k3 := by rw [hk3e, IntKind.wrap_i64]; omega
  obtain ⟨k4, hk4e⟩ : ∃ z, z = k3 + 1 := ⟨_, rfl⟩
  have hw4 : IntKind.i64.wrap (k3 + 1) = k4 := by rw [hk4e, IntKind.wrap_i64]; omega
  refine sv12 ?_
  refine scs ?_
  intro v0
  try (refine sv12 ?_)
  refine scs ?_
  refine CallK_os [1] e38 (by simp [osOk, St.obj, find]) (c38_g x.Cmds (k4) (by omega) (by omega)) rfl ?_
  refine sv12 ?_
  refine scs ?_
  intro v1
  try (refine sv12 ?_)
  refine scs ?_
  refine CallK_os [3] e39 (by simp [osOk, St.obj, find]) (c39_g x.Res ((k4 + 3 * (x.Cmds.length : Int))) (by omega) (by omega)) rfl ?_
  refine sv12 ?_
  refine scs ?_
  apply hK
  refine ⟨l.length - (i + 1), _, by omega, Ent.wk [0] (h4 := objsLe_one (Nat.zero_lt_succ _) rfl), i + 1, _, ((k4 + 3 * (x.Cmds.length : Int)) + 2 * (x.Res.length : Int)), by omega, rfl, ⟨hl1 _, ?_, by omega, by omega⟩, rfl⟩
  rw [drop_mid hA, hB]
 ·have hge' : i = l.length := by omega
  subst hge'
  rw [List.drop_length] at hk2
  have hkk : kk = k + (cntTEvS l : Int) := by rw [<- hk2]; simp [cntTEvS]
  have hd : decide (((l.length : Nat) : Int) < ((l.length : Nat) : Int)) = false := by simp
  refine sv7 ?_
  apply hK
  refine evl ?_
  rw [hkk]
  refine Fin.nt results12 [0] ?_ ?_ ?_ <;> try trivial
  all_goals exact entd
theorem c12_g (l : List TEv) (hl : l.length <= 1048576) (hq : ∀ x ∈ l, x.sok) (k : Int) (hk0 : 0 <= k) (hk : k + (cntTEvS l : Int) <= 4611686018427387904) : Ctr prog 12 [.one (.own 0), .one (.dat (.int .i64 k))] [lent 6 (l.map encTEv)] (.one (.dat (.int .i64 (k + (cntTEvS l : Int))))) [.dead] := by
 cases l with
 | cons x l => exact c12_v (x :: l) hl hq k hk0 hk
 | nil =>
  show Ctr prog 12 [.one (.own 0), .one (.dat (.int .i64 k))] [.frz 6 []] (.one (.dat (.int .i64 (k + (cntTEvS [] : Int))))) [.dead]
  rw [show k + (cntTEvS [] : Int) = k by simp [cntTEvS]]
  refine Ctr.bg mixed func12 rfl ?_
  refine evl ?_
  refine LoopK_intro (fun zn zs => zn = 0 /\ zs = mkSt [(5, .one (.dat (.int .i64 0))), (1, .one (.dat (.int .i64 k))), (0, .one (.own 0))] [.frz 6 []]) 0 _ (Ent.wk [0]) ⟨rfl, rfl⟩ ?_
  rintro zn zs ⟨rfl, rfl⟩ K hK
  have hd0 : decide ((0 : Int) < ((0 : Nat) : Int)) = false := rfl
  refine sv5 ?_
  apply hK
  refine evl ?_
  refine Fin.nt results12 [0] ?_ ?_ ?_ <;> try trivial
  all_goals exact entd
theorem c11 (x : Table) (hx : x.sok) (k : Int) (hk0 : 0 <= k) (hk : k + (mcTable x : Int) <= 4611686018427387904) : Ctr prog 11 [.agg [.own 0, .own 1, .own 2, .own 3, .dat (.int .i64 x.Base.Clock.Epoch), .own 4, .own 5, .own 6, .own 7, .own 8, .own 9, .own 10, .dat (.int .i64 x.Serial)], .one (.dat (.int .i64 k))] [.vec 1 true (x.Base.Mem.Heap.Bytes.map encI), .vec 1 true (x.Base.Mem.Heap.Class.map encI), .vec 1 true (x.Base.Mem.Lists.Global.map encSList), .vec 1 true (x.Base.Mem.Lists.Own.map encSList), .vec 4 true (x.Base.Clock.Pins.map encPin), .vec 1 true (x.Base.Limbo.map encLList), .vec 1 true (x.Base.Haz.map encI), .vec 3 true (x.Bkts.map encBkt), .vec 32 true (x.Jobs.map encTJob), .vec 1 true (x.Todo.map encTQueue), .vec 6 true (x.Log.map encTEv)] (.one (.dat (.int .i64 (k + (mcTable x : Int))))) [.dead, .dead, .dead, .dead, .dead, .dead, .dead, .dead, .dead, .dead, .dead] := by
 have hmc : mcTable x = mcBase x.Base + 3 * x.Bkts.length + cntTJobS x.Jobs + cntTQueueS x.Todo + cntTEvS x.Log := rfl
 obtain ⟨q0, q1, q2, q3, q4, q5, q6, q7, _⟩ := hx
 refine Ctr.bg mixed func11 rfl ?_
 refine evl ?_
 refine scs ?_
 refine CallK_os [0, 1, 2, 3, 4, 5, 6] e35 (by simp [osOk, St.obj, find]) (c35 x.Base q0 (k) (by omega) (by omega)) rfl ?_
 refine evl ?_
 refine scs ?_
 refine CallK_os [7] e36 (by simp [osOk, St.obj, find]) (c36_v x.Bkts ((k + (mcBase x.Base : Int))) (by omega) (by omega)) rfl ?_
 refine evl ?_
 refine scs ?_
 refine CallK_os [8] e37 (by simp [osOk, St.obj, find]) (c37_v x.Jobs q2 q3 (((k + (mcBase x.Base : Int)) + 3 * (x.Bkts.length : Int))) (by omega) (by omega)) rfl ?_
 refine evl ?_
 refine scs ?_
 refine CallK_os [9] e19 (by simp [osOk, St.obj, find]) (c19_v x.Todo q4 q5 ((((k + (mcBase x.Base : Int)) + 3 * (x.Bkts.length : Int)) + (cntTJobS x.Jobs : Int))) (by omega) (by omega)) rfl ?_
 refine evl ?_
 refine scs ?_
 refine CallK_os [10] e12 (by simp [osOk, St.obj, find]) (c12_v x.Log q6 q7 (((((k + (mcBase x.Base : Int)) + 3 * (x.Bkts.length : Int)) + (cntTJobS x.Jobs : Int)) + (cntTQueueS x.Todo : Int))) (by omega) (by omega)) rfl ?_
 refine evl ?_
 rw [show (((((k + (mcBase x.Base : Int)) + 3 * (x.Bkts.length : Int)) + (cntTJobS x.Jobs : Int)) + (cntTQueueS x.Todo : Int)) + (cntTEvS x.Log : Int)) = k + (mcTable x : Int) by omega]
 refine Fin.nt results11 [0, 1, 2, 3, 4, 5, 6, 7, 8, 9, 10] ?_ ?_ ?_ <;> try trivial
 all_goals exact entd
end Go.Proofs.YtldpopbnlmoamaaGreat.Mod
