/- Contracts: Fam3. -/
import Derived.Test.YtppbonemkipgeaaRows
import Derived.Test.YtppbonemkipgeaaCTy
import Derived.Test.YtppbonemkipgeaaAbsTac
import Derived.Test.YtppbonemkipgeaaAbsData
import Derived.Test.YtppbonemkipgeaaCSok
import Derived.WalkKit
import Derived.ProofKit
import Derived.OpenShut
namespace Go.Proofs.Ytppbonemkipgeaa.Mod
open Go.Proofs.Try Go.Abs Go.Proofs.Ytppbonemkipgeaa.Ty Go.ChangeShapes Go.WideShapes Go.ChangeAt Go.RowKit
set_option linter.unusedSimpArgs false
set_option linter.unusedVariables false
set_option maxHeartbeats 8000000
set_option maxRecDepth 100000
theorem c14 (l : List Int) (k : Int) (hk0 : 0 <= k) (hk : k + 1 * l.length <= 4611686018427387904) : Ctr prog 14 [.one (.own 0), .one (.dat (.int .i64 k))] [.vec 1 true (l.map encI)] (.one (.dat (.int .i64 (k + 1 * l.length)))) [.vec 1 true (markInts k l.length)] := by
 refine Ctr.of_body mixed func14 rfl (by kernel_rfl) (Nat.le_of_ble_eq_true rfl) (by simp [AV.Clean, AV.Clean1, Leaf.Clean, D.flat]) (by simp [AObj.Sep]) (by simp) ?_ (by simp [AV.Low, AV.Low1, Leaf.Low]) ?_
 ·intro o ho
  have : o = 0 := by simpa using ho
  subst this
  simp [Objs, Compat, markInts]
 show wpA _ _ _ (FinQ _ _ _ _ _) _
 unfold markInts
 refine evl ?_
 refine LoopK_intro (fun n s => ∃ i : Nat, i <= l.length /\ n = l.length - i /\ s = mkSt [(5, .one (.dat (.int .i64 i))), (1, .one (.dat (.int .i64 (k + 1 * (i : Nat))))), (0, .one (.own 0))]
   [.vec 1 true ((List.range i).map (fun i => encI (k + 1 * (i : Nat))) ++ (l.drop i).map encI)]) l.length _
  (Ent.wk [0]) ⟨0, by omega, by omega, rfl⟩ ?_
 rintro n s ⟨i, hi, rfl, rfl⟩ K hK
 have hlen : ((List.range i).map (fun i => encI (k + 1 * (i : Nat))) ++ (l.drop i).map encI).length = l.length := by simp; omega
 rcases Nat.lt_or_ge i l.length with hlt | hge
 ·have hA : ((List.range i).map (fun i => encI (k + 1 * (i : Nat)))).length = i := by simp
  have hd : decide ((i : Int) < l.length) = true := by simpa using hlt
  have hw := wrap_succ hlt (show l.length <= maxLen by unfold maxLen; omega)
  have hw1 : IntKind.i64.wrap (k + 1 * (i : Int) + 1) = k + 1 * (i : Int) + 1 := by rw [IntKind.wrap_i64]; omega
  rw [List.drop_eq_getElem_cons hlt, List.map_cons] at hlen ⊢
  generalize hAd : (List.range i).map (fun i => encI (k + 1 * (i : Nat))) = A at hA hlen ⊢
  have hl1 : ∀ x, (A ++ x :: (l.drop (i + 1)).map encI).length = l.length := fun x => by
   rw [List.length_append, List.length_cons] at hlen ⊢; exact hlen
  simp (maxSteps := 2000000) only [go_sem, seval, hl1, hd, set_mid hA, getD_mid hA, encI, hw, hw1, D.flat]
  refine scs ?_
  apply hK
  refine ⟨l.length - (i + 1), _, by omega, Ent.weak (ids := [0]) (by simp) rfl (by simp) ?_ ?_ (by simp [objsLe, envLe, find, St.obj, AObj.renF, AV.renF, AV.renF1, Leaf.renF, LowAll, AV.Low, AV.Low1, Leaf.Low, AObj.Low, Ptr.renF, Ptr.Low]), i + 1, by omega, rfl, rfl⟩
  ·rw [List.range_succ, List.map_append, hAd]
   simp [objsLe, envLe, find, St.obj, AObj.renF, AV.renF, AV.renF1, Leaf.renF, LowAll, AV.Low, AV.Low1, Leaf.Low, AObj.Low, Ptr.renF, Ptr.Low]
   rfl
  ·simp [objsLe, envLe, find, St.obj, AObj.renF, AV.renF, AV.renF1, Leaf.renF, LowAll, AV.Low, AV.Low1, Leaf.Low, AObj.Low, Ptr.renF, Ptr.Low]
   omega
 ·have hge' : i = l.length := by omega
  subst hge'
  have hd : decide ((l.length : Int) < l.length) = false := by simp
  simp (maxSteps := 2000000) only [go_sem, seval, hlen, hd]
  apply hK
  refine evl ?_
  refine Fin.nt results14 [0] ?_ ?_ ?_ <;> try trivial
  rw [List.drop_length, List.map_nil, List.append_nil]
  simp [objsLe, envLe, find, St.obj, AObj.renF, AV.renF, AV.renF1, Leaf.renF, LowAll, AV.Low, AV.Low1, Leaf.Low, AObj.Low, Ptr.renF, Ptr.Low]
theorem c15 (n : Nat) (k : Int) (hk0 : 0 <= k) (hk : k + 1 * n <= 4611686018427387904) : Ctr prog 15 [.one (.dat (.sl 1 (markInts k n))), .one (.dat (.int .i64 k))] [] (.one (.dat (.int .i64 (k + 1 * n)))) [] := by
 refine Ctr.bd mixed func15 rfl ?_
 unfold markInts
 refine evl ?_
 refine LoopK_intro (fun m s => ∃ i : Nat, i <= n /\ m = n - i /\ s = mkSt [(5, .one (.dat (.int .i64 i))), (1, .one (.dat (.int .i64 (k + 1 * (i : Nat))))), (0, .one (.dat (.sl 1 ((List.range n).map fun i => encI (k + 1 * (i : Nat))))))] []) n _
  (Ent.wk []) ⟨0, by omega, by omega, rfl⟩ ?_
 rintro m s ⟨i, hi, rfl, rfl⟩ K hK
 have hlen : ((List.range n).map fun i => encI (k + 1 * (i : Nat))).length = n := by simp
 rcases Nat.lt_or_ge i n with hlt | hge
 ·have hd : decide ((i : Int) < n) = true := by simpa using hlt
  have hw := wrap_succ hlt (show n <= maxLen by unfold maxLen; omega)
  have hw1 : IntKind.i64.wrap (k + 1 * (i : Int) + 1) = k + 1 * (i : Int) + 1 := by rw [IntKind.wrap_i64]; omega
  have hg : ((List.range n).map fun i => encI (k + 1 * (i : Nat))).getD i [] = encI (k + 1 * (i : Nat)) := getD_range hlt
  generalize ((List.range n).map fun i => encI (k + 1 * (i : Nat))) = L at hlen hg hK ⊢
  simp (maxSteps := 2000000) only [go_sem, seval, hlen, hd, hg, encI, hw, hw1]
  refine scs ?_
  apply hK
  refine ⟨n - (i + 1), _, by omega, Ent.weak (ids := []) (by simp) rfl (by simp) (by simp [objsLe, envLe, find, St.obj, AObj.renF, AV.renF, AV.renF1, Leaf.renF, LowAll, AV.Low, AV.Low1, Leaf.Low, AObj.Low, Ptr.renF, Ptr.Low]) (by simp [objsLe, envLe, find, St.obj, AObj.renF, AV.renF, AV.renF1, Leaf.renF, LowAll, AV.Low, AV.Low1, Leaf.Low, AObj.Low, Ptr.renF, Ptr.Low]; omega) (by simp [objsLe, envLe, find, St.obj, AObj.renF, AV.renF, AV.renF1, Leaf.renF, LowAll, AV.Low, AV.Low1, Leaf.Low, AObj.Low, Ptr.renF, Ptr.Low]), i + 1, by omega, rfl, rfl⟩
 ·have hge' : i = n := by omega
  subst hge'
  have hd : decide ((i : Int) < i) = false := by simp
  simp (maxSteps := 2000000) only [go_sem, seval, List.length_range, hd]
  apply hK
  refine evl ?_
  refine Fin.nt results15 [] ?_ ?_ ?_ <;> try trivial
theorem c13_v (l : List Write) (k : Int) (hk0 : 0 <= k) (hk : k + 3 * l.length <= 4611686018427387904) : Ctr prog 13 [.one (.own 0), .one (.dat (.int .i64 k))] [.vec 3 true (l.map encWrite)] (.one (.dat (.int .i64 (k + 3 * l.length)))) [.dead] := Ctr.drop (c13 l k hk0 hk) rfl
theorem c13_g (l : List Write) (k : Int) (hk0 : 0 <= k) (hk : k + 3 * l.length <= 4611686018427387904) : Ctr prog 13 [.one (.own 0), .one (.dat (.int .i64 k))] [lent 3 (l.map encWrite)] (.one (.dat (.int .i64 (k + 3 * l.length)))) [.dead] := by
 cases l with
 | cons x l => exact c13_v (x :: l) k hk0 hk
 | nil =>
  show Ctr prog 13 [.one (.own 0), .one (.dat (.int .i64 k))] [.frz 3 []] (.one (.dat (.int .i64 (k + 3 * ((0 : Nat) : Int))))) [.dead]
  rw [show k + 3 * ((0 : Nat) : Int) = k by omega]
  refine Ctr.bg mixed func13 rfl ?_
  refine evl ?_
  refine LoopK_intro (fun zn zs => zn = 0 /\ zs = mkSt [(5, .one (.dat (.int .i64 0))), (1, .one (.dat (.int .i64 k))), (0, .one (.own 0))] [.frz 3 []]) 0 _ (Ent.wk [0]) ⟨rfl, rfl⟩ ?_
  rintro zn zs ⟨rfl, rfl⟩ K hK
  have hd0 : decide ((0 : Int) < ((0 : Nat) : Int)) = false := rfl
  simp (maxSteps := 2000000) only [go_sem, seval, hd0]
  apply hK
  refine evl ?_
  refine Fin.nt results13 [0] ?_ ?_ ?_ <;> try trivial
  all_goals exact entd
end Go.Proofs.Ytppbonemkipgeaa.Mod
