/- Contracts: Map. -/
import Derived.Test.YtcanhdhlbghfiaaGreatRows
import Derived.Test.YtcanhdhlbghfiaaGreatCTy
import Derived.Test.YtcanhdhlbghfiaaGreatAbsTac
import Derived.Test.YtcanhdhlbghfiaaGreatAbsData
import Derived.Test.YtcanhdhlbghfiaaGreatCNum
import Derived.Test.YtcanhdhlbghfiaaGreatCSl
import Derived.WalkKit
import Derived.ProofKit
import Derived.OpenShut
namespace Go.Proofs.YtcanhdhlbghfiaaGreat.Mod
open Go.Proofs.Tryz Go.Abs Go.Proofs.YtcanhdhlbghfiaaGreat.Ty Go.ChangeShapes Go.WideShapes Go.ChangeAt Go.RowKit
set_option linter.unusedSimpArgs false
set_option linter.unusedVariables false
set_option maxHeartbeats 8000000
set_option maxRecDepth 100000
def cntPut : List Write -> Nat
 | [] => 0
 | x :: l => (if x.Del then 0 else 1) + cntPut l
theorem cntPut_append (a b : List Write) : cntPut (a ++ b) = cntPut a + cntPut b := by
 induction a with
 | nil => simp [cntPut]
 | cons x a ih => simp [cntPut, ih]; omega
theorem cntPut_succ {l : List Write} {i : Nat} (h : i < l.length) : cntPut (l.take (i + 1)) = cntPut (l.take i) + (if l[i].Del then 0 else 1) := by
 rw [List.take_succ_eq_append_getElem h, cntPut_append]; simp [cntPut]
theorem cntPut_le (l : List Write) (i : Nat) : cntPut (l.take i) <= i := by
 induction i with
 | zero => simp [cntPut]
 | succ i ih =>
  by_cases h : i < l.length
  ·rw [cntPut_succ h]; split <;> omega
  ·rw [List.take_of_length_le (by omega)]; rw [List.take_of_length_le (by omega)] at ih; omega
theorem c227 (l : List Write) (hl : l.length <= maxLen) (n : Int) : Ctr prog 227 [.one (.dat (.sl 3 (l.map encWrite))), .one (.dat (.int .i64 n))] [] (.one (.dat (.int .i64 (cntPut (l.take n.toNat))))) [] := by
 refine Ctr.bd mixed func227 rfl ?_
 refine evl ?_
 refine LoopK_intro (fun m s => ∃ i : Nat, i <= l.length /\ i <= n.toNat /\ m = l.length - i /\ s = mkSt [(6, .one (.dat (.int .i64 i))), (5, .one (.dat (.int .i64 (cntPut (l.take i))))), (1, .one (.dat (.int .i64 n))), (0, .one (.dat (.sl 3 (l.map encWrite))))] []) l.length _
  (Ent.weak (ids := []) (by simp) rfl (by simp) (by simp [objsLe, envLe, find, St.obj, AObj.renF, AV.renF, AV.renF1, Leaf.renF, LowAll, AV.Low, AV.Low1, Leaf.Low, AObj.Low, Ptr.renF, Ptr.Low]) (by simp [objsLe, envLe, find, St.obj, AObj.renF, AV.renF, AV.renF1, Leaf.renF, LowAll, AV.Low, AV.Low1, Leaf.Low, AObj.Low, Ptr.renF, Ptr.Low]; simp [cntPut]) (by simp [objsLe, envLe, find, St.obj, AObj.renF, AV.renF, AV.renF1, Leaf.renF, LowAll, AV.Low, AV.Low1, Leaf.Low, AObj.Low, Ptr.renF, Ptr.Low])) ⟨0, by omega, by omega, by omega, rfl⟩ ?_
 rintro m s ⟨i, hi, hin, rfl, rfl⟩ K hK
 refine evl ?_
 refine ⟨fun h => ⟨h, h⟩, fun h => h, fun h => ?_, fun h => ?_⟩
 ·have h2 : (i : Int) < l.length /\ (i : Int) < n := by simpa using h
  have hlt : i < l.length := by omega
  have hw := wrap_succ hlt hl
  have hc : IntKind.i64.wrap ((cntPut (l.take i) : Int) + 1) = ((cntPut (l.take i) + 1 : Nat) : Int) := wrap_succ (n := l.length) (by have := cntPut_le l i; omega) hl
  refine ⟨⟨by omega, by omega⟩, hlt, ?_⟩
  simp only [getD_map hlt, encWrite, List.getD_cons_zero, List.getD_cons_succ]
  simp (maxSteps := 2000000) only [go_sem, seval, hw, hc]
  constructor <;> intro h
  ·apply hK
   have hd : l[i].Del = false := by simpa using h
   refine ⟨l.length - (i + 1), _, by omega, Ent.weak (ids := []) (by simp) rfl (by simp) (by simp [objsLe, envLe, find, St.obj, AObj.renF, AV.renF, AV.renF1, Leaf.renF, LowAll, AV.Low, AV.Low1, Leaf.Low, AObj.Low, Ptr.renF, Ptr.Low]) (by simp [objsLe, envLe, find, St.obj, AObj.renF, AV.renF, AV.renF1, Leaf.renF, LowAll, AV.Low, AV.Low1, Leaf.Low, AObj.Low, Ptr.renF, Ptr.Low]; rw [cntPut_succ hlt, hd]; simp) (by simp [objsLe, envLe, find, St.obj, AObj.renF, AV.renF, AV.renF1, Leaf.renF, LowAll, AV.Low, AV.Low1, Leaf.Low, AObj.Low, Ptr.renF, Ptr.Low]), i + 1, by omega, by omega, rfl, rfl⟩
  ·apply hK
   have hd : l[i].Del = true := by simpa using h
   refine ⟨l.length - (i + 1), _, by omega, Ent.weak (ids := []) (by simp) rfl (by simp) (by simp [objsLe, envLe, find, St.obj, AObj.renF, AV.renF, AV.renF1, Leaf.renF, LowAll, AV.Low, AV.Low1, Leaf.Low, AObj.Low, Ptr.renF, Ptr.Low]) (by simp [objsLe, envLe, find, St.obj, AObj.renF, AV.renF, AV.renF1, Leaf.renF, LowAll, AV.Low, AV.Low1, Leaf.Low, AObj.Low, Ptr.renF, Ptr.Low]; rw [cntPut_succ hlt, hd]; simp) (by simp [objsLe, envLe, find, St.obj, AObj.renF, AV.renF, AV.renF1, Leaf.renF, LowAll, AV.Low, AV.Low1, Leaf.Low, AObj.Low, Ptr.renF, Ptr.Low]), i + 1, by omega, by omega, rfl, rfl⟩
 ·have h2 : ¬ ((i : Int) < l.length /\ (i : Int) < n) := by intro hh; simp [hh] at h
  have ht : l.take i = l.take n.toNat := by
   rcases Nat.lt_or_ge i l.length with hlt | hge
   ·have : i = n.toNat := by omega
    rw [this]
   ·rw [List.take_of_length_le hge, List.take_of_length_le (by omega)]
  apply hK
  refine evl ?_
  refine Fin.nt results227 [] ?_ ?_ ?_ <;> try trivial
  (refine rsl ?_; try exact .intro)
  rw [ht]
theorem c229 (l : List Write) (hl : l.length <= maxLen) (n : Int) : Ctr prog 229 [.one (.dat (.sl 3 (l.map encWrite))), .one (.dat (.int .i64 n))] [] (.one (.dat (.int .i64 (cntPut (l.take n.toNat))))) [] := by
 refine Ctr.bd mixed func229 rfl ?_
 refine evl ?_
 have hM : (if 0 > (if (l.length : Int) < n then (l.length : Int) else n) then 0 else if (l.length : Int) < n then (l.length : Int) else n) = ((min l.length n.toNat : Nat) : Int) := by
  split <;> split <;> omega
 have hT : l.take (min l.length n.toNat) = l.take n.toNat := by
  rcases Nat.le_total l.length n.toNat with h | h
  ·rw [Nat.min_eq_left h, List.take_of_length_le (Nat.le_refl _), List.take_of_length_le h]
  ·rw [Nat.min_eq_right h]
 simp only [hM, Int.toNat_natCast, Nat.sub_zero, <- List.map_take, hT, List.length_map]
 refine ⟨⟨by omega, by omega⟩, ?_⟩
 have hl' : (l.take n.toNat).length <= maxLen := by simp; omega
 generalize l.take n.toNat = l' at hl' ⊢
 refine LoopK_intro (fun m s => ∃ i : Nat, i <= l'.length /\ m = l'.length - i /\ s = mkSt [(16, .one (.dat (.int .i64 i))), (15, .one (.dat (.int .i64 l'.length))), (14, .one (.dat (.sl 3 (l'.map encWrite)))), (5, .one (.dat (.int .i64 (cntPut (l'.take i)))))] []) l'.length _
  (Ent.weak (ids := []) (by simp) rfl (by simp) (by simp [objsLe, envLe, find, St.obj, AObj.renF, AV.renF, AV.renF1, Leaf.renF, LowAll, AV.Low, AV.Low1, Leaf.Low, AObj.Low, Ptr.renF, Ptr.Low]) (by simp [objsLe, envLe, find, St.obj, AObj.renF, AV.renF, AV.renF1, Leaf.renF, LowAll, AV.Low, AV.Low1, Leaf.Low, AObj.Low, Ptr.renF, Ptr.Low]; simp [cntPut]) (by simp [objsLe, envLe, find, St.obj, AObj.renF, AV.renF, AV.renF1, Leaf.renF, LowAll, AV.Low, AV.Low1, Leaf.Low, AObj.Low, Ptr.renF, Ptr.Low])) ⟨0, by omega, by omega, rfl⟩ ?_
 rintro m s ⟨i, hi, rfl, rfl⟩ K hK
 refine evl ?_
 constructor <;> intro h
 ·have hlt : i < l'.length := by simpa using h
  have hw := wrap_succ hlt hl'
  have hc : IntKind.i64.wrap ((cntPut (l'.take i) : Int) + 1) = ((cntPut (l'.take i) + 1 : Nat) : Int) := wrap_succ (n := l'.length) (by have := cntPut_le l' i; omega) hl'
  refine ⟨⟨by omega, by omega⟩, hlt, ?_⟩
  simp only [getD_map hlt, encWrite, List.getD_cons_zero, List.getD_cons_succ, List.map_cons, List.map_nil, List.take_succ_cons, List.take_zero]
  simp (maxSteps := 2000000) only [go_sem, seval, hw, hc]
  constructor <;> intro h
  ·apply hK
   have hd : l'[i].Del = false := by simpa using h
   refine ⟨l'.length - (i + 1), _, by omega, Ent.weak (ids := []) (by simp) rfl (by simp) (by simp [objsLe, envLe, find, St.obj, AObj.renF, AV.renF, AV.renF1, Leaf.renF, LowAll, AV.Low, AV.Low1, Leaf.Low, AObj.Low, Ptr.renF, Ptr.Low]) (by simp [objsLe, envLe, find, St.obj, AObj.renF, AV.renF, AV.renF1, Leaf.renF, LowAll, AV.Low, AV.Low1, Leaf.Low, AObj.Low, Ptr.renF, Ptr.Low]; rw [cntPut_succ hlt, hd]; simp) (by simp [objsLe, envLe, find, St.obj, AObj.renF, AV.renF, AV.renF1, Leaf.renF, LowAll, AV.Low, AV.Low1, Leaf.Low, AObj.Low, Ptr.renF, Ptr.Low]), i + 1, by omega, rfl, rfl⟩
  ·apply hK
   have hd : l'[i].Del = true := by simpa using h
   refine ⟨l'.length - (i + 1), _, by omega, Ent.weak (ids := []) (by simp) rfl (by simp) (by simp [objsLe, envLe, find, St.obj, AObj.renF, AV.renF, AV.renF1, Leaf.renF, LowAll, AV.Low, AV.Low1, Leaf.Low, AObj.Low, Ptr.renF, Ptr.Low]) (by simp [objsLe, envLe, find, St.obj, AObj.renF, AV.renF, AV.renF1, Leaf.renF, LowAll, AV.Low, AV.Low1, Leaf.Low, AObj.Low, Ptr.renF, Ptr.Low]; rw [cntPut_succ hlt, hd]; simp) (by simp [objsLe, envLe, find, St.obj, AObj.renF, AV.renF, AV.renF1, Leaf.renF, LowAll, AV.Low, AV.Low1, Leaf.Low, AObj.Low, Ptr.renF, Ptr.Low]), i + 1, by omega, rfl, rfl⟩
 ·have hge : i = l'.length := by simp at h; omega
  subst hge
  apply hK
  refine evl ?_
  refine Fin.nt results229 [] ?_ ?_ ?_ <;> try trivial
  (refine rsl ?_; try exact .intro)
  rw [List.take_of_length_le (Nat.le_refl _)]
end Go.Proofs.YtcanhdhlbghfiaaGreat.Mod
