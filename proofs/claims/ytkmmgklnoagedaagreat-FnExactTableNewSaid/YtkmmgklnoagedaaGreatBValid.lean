/- Contracts: Valid. -/
import Derived.Test.YtkmmgklnoagedaaGreatRows
import Derived.Test.YtkmmgklnoagedaaGreatBTy
import Derived.Test.YtkmmgklnoagedaaGreatAbsTac
import Derived.Test.YtkmmgklnoagedaaGreatAbsData
import Derived.Test.YtkmmgklnoagedaaGreatBFam3
import Derived.Test.YtkmmgklnoagedaaGreatBHist
import Derived.Test.YtkmmgklnoagedaaGreatBNum
import Derived.Test.YtkmmgklnoagedaaGreatBSl2
import Derived.WalkKit
import Derived.ProofKit
import Derived.OpenShut
namespace Go.Proofs.YtkmmgklnoagedaaGreat.Mod
open Go.Proofs.Tryz Go.Abs Go.Proofs.YtkmmgklnoagedaaGreat.Ty Go.ChangeShapes Go.WideShapes Go.ChangeAt Go.RowKit
set_option linter.unusedSimpArgs false
set_option linter.unusedVariables false
set_option maxHeartbeats 8000000
set_option maxRecDepth 100000
theorem take_split {α : Type} {l : List α} {i : Nat} {x : α} (h : i < l.length) (e : l[i] = x) : l = l.take i ++ x :: l.drop (i + 1) := by rw [<- e, <- List.drop_eq_getElem_cons h, List.take_append_drop]
theorem encI_fold (z : Int) : ([D.int .i64 z] : List D) = encI z := rfl
theorem ibeq (a b : Int) : (a == b) = decide (a = b) := by by_cases h : a = b <;> simp [h]
def pinOk (e : Int) (p : Pin) : Bool := within p.Epoch 0 e && (within p.Seen 0 2 && (p.On || decide (p = ⟨false, 0, false, 0⟩)))
def clockOk (c : Clock) : Bool := within c.Epoch 0 100000 && decide ((c.Pins.length : Int) = 3) && c.Pins.all (pinOk c.Epoch)
def queueOk (q : TQueue) : Bool := decide ((q.List.length : Int) <= 12) && q.List.all batchOk
def todosOk (l : List TQueue) : Bool := decide ((l.length : Int) = 3) && l.all queueOk
theorem todos_len {l : List TQueue} (hz : sizTQueueS l <= 1048576) : l.length <= 1048576 /\ ∀ q ∈ l, q.List.length <= 1048576 /\ ∀ b ∈ q.List, b.Cmds.length <= 1048576 := by
 unfold sizTQueueS at hz
 refine ⟨by omega, fun q hq => ?_⟩
 have h1 := sum_mem sizTQueue hq
 have h2 : sizTQueue q <= 1048576 := by omega
 unfold sizTQueue sizBatchS at h2
 refine ⟨by omega, fun b hb => ?_⟩
 have h3 := sum_mem sizBatch hb
 have h4 : sizBatch b <= 1048576 := by omega
 unfold sizBatch at h4; omega
theorem c84 (b : Batch) (hl : b.Cmds.length <= maxLen) : Ctr prog 84 [.agg ((encBatch b).map .dat)] [] (.one (.dat (.bool (!batchOk b)))) [] := by
 have hcb := c85 b hl
 simp only [encBatch, List.map_cons, List.map_nil] at hcb ⊢
 refine Ctr.bd mixed func84 rfl ?_
 refine evl ?_
 refine scs ?_
 refine ck e85 (hcb) rfl ?_
 refine evl ?_
 refine Fin.nt results84 [] ?_ ?_ ?_ <;> try trivial
theorem c82 (q : TQueue) (hl : q.List.length <= maxLen) (hb : ∀ b ∈ q.List, b.Cmds.length <= maxLen) : Ctr prog 82 [.agg ((encTQueue q).map .dat)] [] (.one (.dat (.bool (!queueOk q)))) [] := by
 simp only [encTQueue, List.map_cons, List.map_nil]
 refine Ctr.bd mixed func82 rfl ?_
 refine sv20 ?_
 refine scs ?_
 refine ck e83 (c83_k0 q.List hl e84 (fun x hx => c84 x (hb x hx))) rfl ?_
 refine sv20 ?_
 refine scs ?_
 refine Fin.nt results82 [] ?_ ?_ ?_ <;> try trivial
 (refine rsl ?_; try exact .intro)
 have he : decide (12 < (q.List.length : Int)) = !decide ((q.List.length : Int) <= 12) := by
  by_cases h : (q.List.length : Int) <= 12
  ·simp [h]
  ·simp [h]; omega
 rw [he, queueOk, <- any_not_all]
 cases decide ((q.List.length : Int) <= 12) <;> simp
theorem c29 (l : List TQueue) (hz : sizTQueueS l <= 1048576) : Ctr prog 29 [.one (.dat (.sl 1 (l.map encTQueue)))] [] (.one (.dat (.bool (todosOk l)))) [] := by
 have hmx : maxLen = 9223372036854775807 := rfl
 obtain ⟨hl, hq⟩ := todos_len hz
 refine Ctr.bd mixed func29 rfl ?_
 refine sv20 ?_
 refine scs ?_
 refine ck e81 (c81_k0 l (by omega) e82 (fun x hx => c82 x (by have := (hq x hx).1; omega) (fun b hb => by have := (hq x hx).2 b hb; omega))) rfl ?_
 refine sv20 ?_
 refine scs ?_
 refine Fin.nt results29 [] ?_ ?_ ?_ <;> try trivial
 (refine rsl ?_; try exact .intro)
 simp only [todosOk, <- any_not_all, ibeq]
 cases decide ((l.length : Int) = 3) <;> rfl
theorem c25 (l : List TQueue) (hz : sizTQueueS l <= 1048576) : Ctr prog 25 [.one (.dat (.sl 1 (l.map encTQueue)))] [] (.one (.dat (.bool (todosOk l)))) [] := by
 have hmx : maxLen = 9223372036854775807 := rfl
 obtain ⟨hl, hql⟩ := todos_len hz
 have hcb := fun b hb => c74 b hb
 simp only [encBatch, List.map_cons, List.map_nil] at hcb
 refine Ctr.bd mixed func25 rfl ?_
 refine sv20 ?_
 refine scs ?_
 refine LoopK_intro (fun zn zs => ∃ i : Nat, i <= l.length /\ zn = l.length - i /\ (l.all queueOk = (l.drop i).all queueOk) /\ zs = mkSt [(3, .one (.dat (.int .i64 i))), (0, .one (.dat (.sl 1 (l.map encTQueue))))] []) (l.length) _
  (Ent.wk []) ⟨0, by omega, by omega, rfl, rfl⟩ ?_
 rintro zn zs ⟨i, hi, rfl, hinv, rfl⟩ K hK
 rcases Nat.lt_or_ge i (l.length) with hlt | hge
 ·have hdi : decide ((i : Int) < ((l.length : Nat) : Int)) = true := decide_eq_true (by omega)
  have hw := wrap_succ hlt (show l.length <= maxLen by omega)
  rw [List.drop_eq_getElem_cons hlt, List.all_cons] at hinv
  obtain ⟨q, hqi⟩ : ∃ q, l[i] = q := ⟨_, rfl⟩
  have hqm : q ∈ l := hqi ▸ List.getElem_mem hlt
  obtain ⟨hl1, hl2⟩ := hql q hqm
  rw [hqi] at hinv
  simp (maxSteps := 2000000) only [go_sem, seval, hdi, hw, getD_map hlt, hqi, encTQueue]
  refine scs ?_
  constructor <;> intro hq
  ·have hp0 : queueOk q = false := by
    have hd := of_decide_eq_true hq
    rw [queueOk, decide_eq_false (by omega)]; rfl
   rw [hp0, Bool.false_and] at hinv
   apply hK
   simp (maxSteps := 2000000) only [go_sem, seval, hdi, hw, getD_map hlt, hqi, encTQueue]
   refine Fin.nt results25 [] ?_ ?_ ?_ <;> try trivial
   (refine rsl ?_; try exact .intro)
   rw [todosOk, hinv, Bool.and_false]
  have hq0 : queueOk q = q.List.all batchOk := by
   have hd := of_decide_eq_false hq
   rw [queueOk, decide_eq_true (by omega)]; rfl
  clear hq
  obtain ⟨B, hB⟩ : ∃ B, q.List = B := ⟨_, rfl⟩
  rw [hB] at hq0 hl1 hl2 ⊢
  refine LoopK_intro (fun zn zs => ∃ k : Nat, k <= B.length /\ zn = B.length - k /\ (B.all batchOk = (B.drop k).all batchOk) /\ zs = mkSt [(4, .one (.dat (.int .i64 k))), (3, .one (.dat (.int .i64 i))), (0, .one (.dat (.sl 1 (l.map encTQueue))))] []) (B.length) _
   (Ent.wk []) ⟨0, by omega, by omega, rfl, rfl⟩ ?_
  rintro zn zs ⟨k, hi2, rfl, hinv2, rfl⟩ K2 hK2
  rcases Nat.lt_or_ge k (B.length) with hlt2 | hge2
  ·have hdi2 : decide ((k : Int) < ((B.length : Nat) : Int)) = true := decide_eq_true (by omega)
   have hw2 := wrap_succ hlt2 (show B.length <= maxLen by omega)
   rw [List.drop_eq_getElem_cons hlt2, List.all_cons] at hinv2
   obtain ⟨b, hbk⟩ : ∃ b, B[k] = b := ⟨_, rfl⟩
   have hbm : b ∈ B := hbk ▸ List.getElem_mem hlt2
   rw [hbk] at hinv2
   refine sv21 ?_
   refine scs ?_
   refine ck e74 (hcb b (by have := hl2 b hbm; omega)) rfl ?_
   refine sv21 ?_
   refine scs ?_
   constructor <;> intro hq
   ·have hp1 : batchOk b = false := by simpa using hq
    rw [hp1, Bool.false_and] at hinv2
    rw [hq0, hinv2, Bool.false_and] at hinv
    apply hK2
    refine sv21 ?_
    apply hK
    refine sv21 ?_
    refine Fin.nt results25 [] ?_ ?_ ?_ <;> try trivial
    (refine rsl ?_; try exact .intro)
    rw [todosOk, hinv, Bool.and_false]
   ·have hp1 : batchOk b = true := by simpa using hq
    rw [hp1, Bool.true_and] at hinv2
    (apply hK2
     exact ⟨B.length - (k + 1), _, by omega, Ent.wk [], k + 1, by omega, rfl, hinv2, rfl⟩)
  ·have hge2' : B.length = k := by omega
   subst hge2'
   have hdi2 : decide (((B.length : Nat) : Int) < ((B.length : Nat) : Int)) = false := by simp
   rw [List.drop_length, List.all_nil] at hinv2
   rw [hq0, hinv2, Bool.true_and] at hinv
   simp (maxSteps := 2000000) only [go_sem, seval, hdi2, hdi, getD_map hlt, hqi, hB, encTQueue]
   refine scs ?_
   apply hK2
   refine sv3 ?_
   (apply hK
    exact ⟨l.length - (i + 1), _, by omega, Ent.wk [], i + 1, by omega, rfl, hinv, rfl⟩)
 ·have hge' : l.length = i := by omega
  subst hge'
  have hdi : decide (((l.length : Nat) : Int) < ((l.length : Nat) : Int)) = false := by simp
  rw [List.drop_length, List.all_nil] at hinv
  refine sv4 ?_
  apply hK
  refine sv20 ?_
  refine Fin.nt results25 [] ?_ ?_ ?_ <;> try trivial
  (refine rsl ?_; try exact .intro)
  rw [todosOk, hinv, Bool.and_true, ibeq]
end Go.Proofs.YtkmmgklnoagedaaGreat.Mod
