/- Contracts: Hist. -/
import Derived.Test.YtkfpkemibnmkoaaRows
import Derived.Test.YtkfpkemibnmkoaaTy
import Derived.Test.YtkfpkemibnmkoaaAbsEval
import Derived.Test.YtkfpkemibnmkoaaAbsData
import Derived.Test.YtkfpkemibnmkoaaMMap
import Derived.Test.YtkfpkemibnmkoaaMSl2
import Derived.Test.YtkfpkemibnmkoaaMFam2
import Derived.WalkKit
import Derived.ProofKit
import Derived.OpenShut
namespace Go.Proofs.Ytkfpkemibnmkoaa.Mod
open Go.Abs Go.Proofs.Ytkfpkemibnmkoaa.Ty Go.ChangeShapes Go.WideShapes Go.ChangeAt Go.RowKit
set_option linter.unusedSimpArgs false
set_option linter.unusedVariables false
set_option maxHeartbeats 8000000
set_option maxRecDepth 100000
theorem all_drop {α : Type} {p : α → Bool} {l : List α} {i : Nat} {b : Bool} (h : i < l.length) (hb : b = (l.drop i).all p) : b = (p l[i] && (l.drop (i + 1)).all p) := by
  rw [List.drop_eq_getElem_cons h, List.all_cons] at hb; exact hb
theorem any_not_all {α : Type} (p : α → Bool) (l : List α) : (!l.any fun x => !p x) = l.all p := by
  rw [List.not_any_eq_all_not]; simp
def cmdOkC (c : Cmd) : Bool := cmdOk c.Kind c.Key c.Val
def batchOk (b : Batch) : Bool := bif b.Collect then ((b.Cmds.length : Int) == 0) else within b.Cmds.length 1 6 && b.Cmds.all cmdOkC
theorem c102 (x : Cmd) : Ctr Try.prog 102 [.agg ((encCmd x).map .dat)] [] (.one (.dat (.bool (!cmdOkC x)))) [] := by
  simp only [encCmd, List.map_cons, List.map_nil]
  refine Ctr.body mixed Try.func102 rfl (by kernel_rfl) (Nat.le_of_ble_eq_true rfl) (by simp [AV.Clean, AV.Clean1, Leaf.Clean, D.flat]) (by simp [AObj.Sep]) (by simp [AV.Low, AV.Low1, Leaf.Low]) ?_
  simp (maxSteps := 2000000) only [go_sem, ↓reduceIte, reduceCtorEq, Nat.reduceAdd, Nat.reduceMul, Nat.reduceSub, Nat.reduceLT, Nat.reduceLeDiff, Nat.reduceEqDiff, Int.reduceToNat, Int.reduceLT, Int.reduceLE, Int.reduceNeg]
  refine CallK_pure e95 (c95 ..) rfl ?_
  simp (maxSteps := 2000000) only [go_sem, ↓reduceIte, reduceCtorEq, Nat.reduceAdd, Nat.reduceMul, Nat.reduceSub, Nat.reduceLT, Nat.reduceLeDiff, Nat.reduceEqDiff, Int.reduceToNat, Int.reduceLT, Int.reduceLE, Int.reduceNeg]
  refine Fin.intro Try.results102 [] (by simp (maxSteps := 2000000) only [go_sem, ↓reduceIte, reduceCtorEq, Nat.reduceAdd, Nat.reduceMul, Nat.reduceSub, Nat.reduceLT, Nat.reduceLeDiff, Nat.reduceEqDiff, Int.reduceToNat, Int.reduceLT, Int.reduceLE, Int.reduceNeg, resA]; rfl) ?_ ?_ (by simp) rfl (by simp) ?_ <;> try trivial
theorem c57 (b : Batch) (hl : b.Cmds.length ≤ maxLen) : Ctr Try.prog 57 [.agg ((encBatch b).map .dat)] [] (.one (.dat (.bool (batchOk b)))) [] := by
  simp only [encBatch, List.map_cons, List.map_nil]
  refine Ctr.body mixed Try.func57 rfl (by kernel_rfl) (Nat.le_of_ble_eq_true rfl) (by simp [AV.Clean, AV.Clean1, Leaf.Clean, D.flat]) (by simp [AObj.Sep]) (by simp [AV.Low, AV.Low1, Leaf.Low]) ?_
  simp (maxSteps := 2000000) only [go_sem, ↓reduceIte, reduceCtorEq, Nat.reduceAdd, Nat.reduceMul, Nat.reduceSub, Nat.reduceLT, Nat.reduceLeDiff, Nat.reduceEqDiff, Int.reduceToNat, Int.reduceLT, Int.reduceLE, Int.reduceNeg, List.length_map]
  refine ⟨fun h => ?_, fun h => ?_⟩
  · refine Fin.intro Try.results57 [] (by simp (maxSteps := 2000000) only [go_sem, ↓reduceIte, reduceCtorEq, Nat.reduceAdd, Nat.reduceMul, Nat.reduceSub, Nat.reduceLT, Nat.reduceLeDiff, Nat.reduceEqDiff, Int.reduceToNat, Int.reduceLT, Int.reduceLE, Int.reduceNeg, resA]; rfl) ?_ ?_ (by simp) rfl (by simp) ?_ <;> try trivial
    simp only [packA, AV.renF, AV.renF1, Leaf.renF, AV.one.injEq, Leaf.dat.injEq, D.bool.injEq, D.int.injEq, D.str.injEq, AV.agg.injEq, AV.tup.injEq, List.cons.injEq, and_true, true_and, List.map_cons, List.map_nil]
    simp only [batchOk, h, cond_true]
  first | refine CallK_pure e100 (c100 ..) rfl ?_ | refine Or.inr ⟨by kernel_rfl, EffK_pure e100 (c100 ..) rfl ?_⟩ | refine Or.inr (EffK_pure e100 (c100 ..) rfl ?_) | refine CCallK_plain e100 (c100 ..) rfl rfl ?_ (by intro h; first | exact trivial | exact h | exact ⟨h, h⟩ | (cases h; done) | (simp; done) | (simp_all only [Bool.not_false, Bool.not_true, and_self]; done)) | refine Or.inl (CCallK_plain e100 (c100 ..) rfl rfl ?_ (by intro h; first | exact trivial | exact h | exact ⟨h, h⟩ | (cases h; done) | (simp; done) | (simp_all only [Bool.not_false, Bool.not_true, and_self]; done)))
  simp (maxSteps := 2000000) only [go_sem, ↓reduceIte, reduceCtorEq, Nat.reduceAdd, Nat.reduceMul, Nat.reduceSub, Nat.reduceLT, Nat.reduceLeDiff, Nat.reduceEqDiff, Int.reduceToNat, Int.reduceLT, Int.reduceLE, Int.reduceNeg, List.length_map]
  repeat ((with_reducible show _ ∧ _); refine ⟨?_, ?_⟩; focus ((intros; repeat' apply And.intro) <;> first | (with_reducible assumption) | omega | exact trivial | exact List.nodup_nil | exact List.not_mem_nil | (with_reducible rfl) | decide | (simp_all only [Bool.not_false, Bool.not_true]; done) | (simp only [List.length_map, List.length_append, List.length_cons, List.length_nil, encI]; omega) | exact rfl | ((try clear hK); simp_all [D.flat]; done)))
  first | refine CallK_pure e101 (c101_k0 b.Cmds hl e102 (fun x _ => c102 x)) rfl ?_ | refine Or.inr ⟨by kernel_rfl, EffK_pure e101 (c101_k0 b.Cmds hl e102 (fun x _ => c102 x)) rfl ?_⟩ | refine Or.inr (EffK_pure e101 (c101_k0 b.Cmds hl e102 (fun x _ => c102 x)) rfl ?_) | refine CCallK_plain e101 (c101_k0 b.Cmds hl e102 (fun x _ => c102 x)) rfl rfl ?_ (by intro h; first | exact trivial | exact h | exact ⟨h, h⟩ | (cases h; done) | (simp; done) | (simp_all only [Bool.not_false, Bool.not_true, and_self]; done)) | refine Or.inl (CCallK_plain e101 (c101_k0 b.Cmds hl e102 (fun x _ => c102 x)) rfl rfl ?_ (by intro h; first | exact trivial | exact h | exact ⟨h, h⟩ | (cases h; done) | (simp; done) | (simp_all only [Bool.not_false, Bool.not_true, and_self]; done)))
  simp (maxSteps := 2000000) only [go_sem, ↓reduceIte, reduceCtorEq, Nat.reduceAdd, Nat.reduceMul, Nat.reduceSub, Nat.reduceLT, Nat.reduceLeDiff, Nat.reduceEqDiff, Int.reduceToNat, Int.reduceLT, Int.reduceLE, Int.reduceNeg, List.length_map]
  repeat ((with_reducible show _ ∧ _); refine ⟨?_, ?_⟩; focus ((intros; repeat' apply And.intro) <;> first | (with_reducible assumption) | omega | exact trivial | exact List.nodup_nil | exact List.not_mem_nil | (with_reducible rfl) | decide | (simp_all only [Bool.not_false, Bool.not_true]; done) | (simp only [List.length_map, List.length_append, List.length_cons, List.length_nil, encI]; omega) | exact rfl | ((try clear hK); simp_all [D.flat]; done)))
  refine Fin.intro Try.results57 [] (by simp (maxSteps := 2000000) only [go_sem, ↓reduceIte, reduceCtorEq, Nat.reduceAdd, Nat.reduceMul, Nat.reduceSub, Nat.reduceLT, Nat.reduceLeDiff, Nat.reduceEqDiff, Int.reduceToNat, Int.reduceLT, Int.reduceLE, Int.reduceNeg, resA]; rfl) ?_ ?_ (by simp) rfl (by simp) ?_ <;> try trivial
  simp only [packA, AV.renF, AV.renF1, Leaf.renF, AV.one.injEq, Leaf.dat.injEq, D.bool.injEq, D.int.injEq, D.str.injEq, AV.agg.injEq, AV.tup.injEq, List.cons.injEq, and_true, true_and, List.map_cons, List.map_nil]
  simp only [batchOk, h, cond_false, ← any_not_all]
  cases within b.Cmds.length 1 6 <;> rfl
theorem c55 (b : Batch) (hl : b.Cmds.length ≤ maxLen) : Ctr Try.prog 55 [.agg ((encBatch b).map .dat)] [] (.one (.dat (.bool (batchOk b)))) [] := by
  simp only [encBatch, List.map_cons, List.map_nil]
  refine Ctr.body mixed Try.func55 rfl (by kernel_rfl) (Nat.le_of_ble_eq_true rfl) (by simp [AV.Clean, AV.Clean1, Leaf.Clean, D.flat]) (by simp [AObj.Sep]) (by simp [AV.Low, AV.Low1, Leaf.Low]) ?_
  simp (maxSteps := 2000000) only [go_sem, ↓reduceIte, reduceCtorEq, Nat.reduceAdd, Nat.reduceMul, Nat.reduceSub, Nat.reduceLT, Nat.reduceLeDiff, Nat.reduceEqDiff, Int.reduceToNat, Int.reduceLT, Int.reduceLE, Int.reduceNeg, List.length_map]
  refine ⟨fun h => ?_, fun hc => ?_⟩
  · refine Fin.intro Try.results55 [] (by simp (maxSteps := 2000000) only [go_sem, ↓reduceIte, reduceCtorEq, Nat.reduceAdd, Nat.reduceMul, Nat.reduceSub, Nat.reduceLT, Nat.reduceLeDiff, Nat.reduceEqDiff, Int.reduceToNat, Int.reduceLT, Int.reduceLE, Int.reduceNeg, resA]; rfl) ?_ ?_ (by simp) rfl (by simp) ?_ <;> try trivial
    simp only [packA, AV.renF, AV.renF1, Leaf.renF, AV.one.injEq, Leaf.dat.injEq, D.bool.injEq, D.int.injEq, D.str.injEq, AV.agg.injEq, AV.tup.injEq, List.cons.injEq, and_true, true_and, List.map_cons, List.map_nil]
    simp only [batchOk, h, cond_true]
  refine LoopK_intro (fun zn zs => ∃ i : Nat, i ≤ b.Cmds.length ∧ zn = b.Cmds.length - i ∧ (b.Cmds.all cmdOkC = (b.Cmds.drop i).all cmdOkC) ∧ zs = mkSt [(3, .one (.dat (.int .i64 i))), (1, .one (.ptr (.own 0 0 0)))] [.box [.dat (.bool b.Collect), .dat (.sl 3 (b.Cmds.map encCmd))]]) (b.Cmds.length) _
    (Ent.weak (ids := [0]) (by simp) rfl (by simp) (by simp [objsLe, envLe, find, St.obj, AObj.renF, AV.renF, AV.renF1, Leaf.renF, LowAll, AV.Low, AV.Low1, Leaf.Low, AObj.Low, Ptr.renF, Ptr.Low]) (by simp [objsLe, envLe, find, St.obj, AObj.renF, AV.renF, AV.renF1, Leaf.renF, LowAll, AV.Low, AV.Low1, Leaf.Low, AObj.Low, Ptr.renF, Ptr.Low]) (by simp [objsLe, envLe, find, St.obj, AObj.renF, AV.renF, AV.renF1, Leaf.renF, LowAll, AV.Low, AV.Low1, Leaf.Low, AObj.Low, Ptr.renF, Ptr.Low])) ⟨0, by omega, by omega, by simp, rfl⟩ ?_
  rintro zn zs ⟨i, hi, rfl, hinv, rfl⟩ K hK
  rcases Nat.lt_or_ge i (b.Cmds.length) with hlt | hge
  · have hdi : decide ((i : Int) < ((b.Cmds.length : Nat) : Int)) = true := by simpa using hlt
    have hw := wrap_succ hlt hl
    rw [List.drop_eq_getElem_cons hlt, List.all_cons] at hinv
    simp (maxSteps := 2000000) only [go_sem, ↓reduceIte, reduceCtorEq, Nat.reduceAdd, Nat.reduceMul, Nat.reduceSub, Nat.reduceLT, Nat.reduceLeDiff, Nat.reduceEqDiff, Int.reduceToNat, Int.reduceLT, Int.reduceLE, Int.reduceNeg, hdi, hw, getD_map hlt, encCmd, List.length_map]
    repeat ((with_reducible show _ ∧ _); refine ⟨?_, ?_⟩; focus ((intros; repeat' apply And.intro) <;> first | (with_reducible assumption) | omega | exact trivial | exact List.nodup_nil | exact List.not_mem_nil | (with_reducible rfl) | decide | (simp_all only [Bool.not_false, Bool.not_true]; done) | (simp only [List.length_map, List.length_append, List.length_cons, List.length_nil, encI]; omega) | exact rfl | ((try clear hK); simp_all [D.flat]; done)))
    first | refine CallK_pure e90 (c90 ..) rfl ?_ | refine Or.inr ⟨by kernel_rfl, EffK_pure e90 (c90 ..) rfl ?_⟩ | refine Or.inr (EffK_pure e90 (c90 ..) rfl ?_) | refine CCallK_plain e90 (c90 ..) rfl rfl ?_ (by intro h; first | exact trivial | exact h | exact ⟨h, h⟩ | (cases h; done) | (simp; done) | (simp_all only [Bool.not_false, Bool.not_true, and_self]; done)) | refine Or.inl (CCallK_plain e90 (c90 ..) rfl rfl ?_ (by intro h; first | exact trivial | exact h | exact ⟨h, h⟩ | (cases h; done) | (simp; done) | (simp_all only [Bool.not_false, Bool.not_true, and_self]; done)))
    simp (maxSteps := 2000000) only [go_sem, ↓reduceIte, reduceCtorEq, Nat.reduceAdd, Nat.reduceMul, Nat.reduceSub, Nat.reduceLT, Nat.reduceLeDiff, Nat.reduceEqDiff, Int.reduceToNat, Int.reduceLT, Int.reduceLE, Int.reduceNeg, hw]
    refine ⟨fun h => ?_, fun h => ?_⟩
    · have h' : cmdOkC b.Cmds[i] = false := by simpa [cmdOkC] using h
      rw [h', Bool.false_and] at hinv
      apply hK
      simp (maxSteps := 2000000) only [go_sem, ↓reduceIte, reduceCtorEq, Nat.reduceAdd, Nat.reduceMul, Nat.reduceSub, Nat.reduceLT, Nat.reduceLeDiff, Nat.reduceEqDiff, Int.reduceToNat, Int.reduceLT, Int.reduceLE, Int.reduceNeg]
      refine Fin.intro Try.results55 [] (by simp (maxSteps := 2000000) only [go_sem, ↓reduceIte, reduceCtorEq, Nat.reduceAdd, Nat.reduceMul, Nat.reduceSub, Nat.reduceLT, Nat.reduceLeDiff, Nat.reduceEqDiff, Int.reduceToNat, Int.reduceLT, Int.reduceLE, Int.reduceNeg, resA]; rfl) ?_ ?_ (by simp) rfl (by simp) ?_ <;> try trivial
      simp only [packA, AV.renF, AV.renF1, Leaf.renF, AV.one.injEq, Leaf.dat.injEq, D.bool.injEq, D.int.injEq, D.str.injEq, AV.agg.injEq, AV.tup.injEq, List.cons.injEq, and_true, true_and, List.map_cons, List.map_nil]
      simp [batchOk, hc, hinv]
    · have h' : cmdOkC b.Cmds[i] = true := by simpa [cmdOkC] using h
      rw [h', Bool.true_and] at hinv
      (apply hK
       exact ⟨b.Cmds.length - (i + 1), _, by omega, Ent.weak (ids := [0]) (by simp) rfl (by simp) (by simp [objsLe, envLe, find, St.obj, AObj.renF, AV.renF, AV.renF1, Leaf.renF, LowAll, AV.Low, AV.Low1, Leaf.Low, AObj.Low, Ptr.renF, Ptr.Low] <;> try rfl) (by simp [objsLe, envLe, find, St.obj, AObj.renF, AV.renF, AV.renF1, Leaf.renF, LowAll, AV.Low, AV.Low1, Leaf.Low, AObj.Low, Ptr.renF, Ptr.Low] <;> try rfl) (by simp [objsLe, envLe, find, St.obj, AObj.renF, AV.renF, AV.renF1, Leaf.renF, LowAll, AV.Low, AV.Low1, Leaf.Low, AObj.Low, Ptr.renF, Ptr.Low]), i + 1, by omega, rfl, hinv, rfl⟩)
  · have hge' : b.Cmds.length = i := by omega
    subst hge'
    have hdi : decide (((b.Cmds.length : Nat) : Int) < ((b.Cmds.length : Nat) : Int)) = false := by simp
    rw [List.drop_length, List.all_nil] at hinv
    simp (maxSteps := 2000000) only [go_sem, ↓reduceIte, reduceCtorEq, Nat.reduceAdd, Nat.reduceMul, Nat.reduceSub, Nat.reduceLT, Nat.reduceLeDiff, Nat.reduceEqDiff, Int.reduceToNat, Int.reduceLT, Int.reduceLE, Int.reduceNeg, hdi, List.length_map]
    apply hK
    simp (maxSteps := 2000000) only [go_sem, ↓reduceIte, reduceCtorEq, Nat.reduceAdd, Nat.reduceMul, Nat.reduceSub, Nat.reduceLT, Nat.reduceLeDiff, Nat.reduceEqDiff, Int.reduceToNat, Int.reduceLT, Int.reduceLE, Int.reduceNeg, List.length_map]
    first | refine CallK_pure e99 (c99 ..) rfl ?_ | refine Or.inr ⟨by kernel_rfl, EffK_pure e99 (c99 ..) rfl ?_⟩ | refine Or.inr (EffK_pure e99 (c99 ..) rfl ?_) | refine CCallK_plain e99 (c99 ..) rfl rfl ?_ (by intro h; first | exact trivial | exact h | exact ⟨h, h⟩ | (cases h; done) | (simp; done) | (simp_all only [Bool.not_false, Bool.not_true, and_self]; done)) | refine Or.inl (CCallK_plain e99 (c99 ..) rfl rfl ?_ (by intro h; first | exact trivial | exact h | exact ⟨h, h⟩ | (cases h; done) | (simp; done) | (simp_all only [Bool.not_false, Bool.not_true, and_self]; done)))
    simp (maxSteps := 2000000) only [go_sem, ↓reduceIte, reduceCtorEq, Nat.reduceAdd, Nat.reduceMul, Nat.reduceSub, Nat.reduceLT, Nat.reduceLeDiff, Nat.reduceEqDiff, Int.reduceToNat, Int.reduceLT, Int.reduceLE, Int.reduceNeg]
    refine Fin.intro Try.results55 [] (by simp (maxSteps := 2000000) only [go_sem, ↓reduceIte, reduceCtorEq, Nat.reduceAdd, Nat.reduceMul, Nat.reduceSub, Nat.reduceLT, Nat.reduceLeDiff, Nat.reduceEqDiff, Int.reduceToNat, Int.reduceLT, Int.reduceLE, Int.reduceNeg, resA]; rfl) ?_ ?_ (by simp) rfl (by simp) ?_ <;> try trivial
    simp only [packA, AV.renF, AV.renF1, Leaf.renF, AV.one.injEq, Leaf.dat.injEq, D.bool.injEq, D.int.injEq, D.str.injEq, AV.agg.injEq, AV.tup.injEq, List.cons.injEq, and_true, true_and, List.map_cons, List.map_nil]
    simp [batchOk, hc, hinv]
def isTell (s : Int) (e : TEv) : Bool := bif e.Kind == 3 then e.Serial == s else false
def evIs (k s : Int) (e : TEv) : Bool := bif e.Kind == k then e.Serial == s else false
def codes (l : List TEv) (c : Int) : Nat := l.countP fun e => bif e.Kind == 3 then e.Code == c else false
def placeOf (l : List TEv) (k s : Int) : Int := ixF (evIs k s) l
def inTime (l : List TEv) (a b : Int) : Bool := decide (0 ≤ placeOf l 3 a) && decide (0 ≤ placeOf l 1 b) && decide (placeOf l 3 a < placeOf l 1 b)
theorem placeOf_le (l : List TEv) (k s : Int) : -1 ≤ placeOf l k s ∧ placeOf l k s ≤ l.length := by
  unfold placeOf
  rcases ixF_cases (evIs k s) l with ⟨e, _⟩ | ⟨i, hi, e, _⟩ <;> rw [e] <;> omega
theorem c62 (l : List TEv) (hl : l.length ≤ maxLen) (c : Int) : Ctr Try.prog 62 [.one (.dat (.sl 6 (l.map encTEv))), .one (.dat (.int .i64 c))] [] (.one (.dat (.int .i64 (codes l c : Nat)))) [] := by
  refine Ctr.body mixed Try.func62 rfl (by kernel_rfl) (Nat.le_of_ble_eq_true rfl) (by simp [AV.Clean, AV.Clean1, Leaf.Clean, D.flat]) (by simp [AObj.Sep]) (by simp [AV.Low, AV.Low1, Leaf.Low]) ?_
  simp (maxSteps := 2000000) only [go_sem, ↓reduceIte, reduceCtorEq, Nat.reduceAdd, Nat.reduceMul, Nat.reduceSub, Nat.reduceLT, Nat.reduceLeDiff, Nat.reduceEqDiff, Int.reduceToNat, Int.reduceLT, Int.reduceLE, Int.reduceNeg]
  refine LoopK_intro (fun zn zs => ∃ (i : Nat) (m : Nat), i ≤ l.length ∧ zn = l.length - i ∧ (m ≤ i ∧ codes l c = m + codes (l.drop i) c) ∧ zs = mkSt [(10, .one (.dat (.int .i64 i))), (9, .one (.dat (.int .i64 (l.length)))), (8, .one (.dat (.sl 6 (l.map encTEv)))), (5, .one (.dat (.int .i64 (m : Nat)))), (0, .one (.dat (.sl 6 (l.map encTEv)))), (1, .one (.dat (.int .i64 c)))] []) (l.length) _
    (Ent.weak (ids := []) (by simp) rfl (by simp) (by simp [objsLe, envLe, find, St.obj, AObj.renF, AV.renF, AV.renF1, Leaf.renF, LowAll, AV.Low, AV.Low1, Leaf.Low, AObj.Low, Ptr.renF, Ptr.Low]) (by simp [objsLe, envLe, find, St.obj, AObj.renF, AV.renF, AV.renF1, Leaf.renF, LowAll, AV.Low, AV.Low1, Leaf.Low, AObj.Low, Ptr.renF, Ptr.Low]) (by simp [objsLe, envLe, find, St.obj, AObj.renF, AV.renF, AV.renF1, Leaf.renF, LowAll, AV.Low, AV.Low1, Leaf.Low, AObj.Low, Ptr.renF, Ptr.Low])) ⟨0, 0, by omega, by omega, by simp, rfl⟩ ?_
  rintro zn zs ⟨i, m, hi, rfl, hinv, rfl⟩ K hK
  rcases Nat.lt_or_ge i (l.length) with hlt | hge
  · have hdi : decide ((i : Int) < ((l.length : Nat) : Int)) = true := by simpa using hlt
    have hw := wrap_succ hlt hl
    obtain ⟨hm, hinv⟩ := hinv
    have hwm := wrap_succ (i := m) (by omega) hl
    rw [List.drop_eq_getElem_cons hlt, codes, codes, List.countP_cons] at hinv
    simp (maxSteps := 2000000) only [go_sem, ↓reduceIte, reduceCtorEq, Nat.reduceAdd, Nat.reduceMul, Nat.reduceSub, Nat.reduceLT, Nat.reduceLeDiff, Nat.reduceEqDiff, Int.reduceToNat, Int.reduceLT, Int.reduceLE, Int.reduceNeg, hdi, hw, getD_map hlt, encTEv, List.length_map, hwm]
    repeat ((with_reducible show _ ∧ _); refine ⟨?_, ?_⟩; focus ((intros; repeat' apply And.intro) <;> first | (with_reducible assumption) | omega | exact trivial | exact List.nodup_nil | exact List.not_mem_nil | (with_reducible rfl) | decide | (simp_all only [Bool.not_false, Bool.not_true]; done) | (simp only [List.length_map, List.length_append, List.length_cons, List.length_nil, encI]; omega) | exact rfl | ((try clear hK); simp_all [D.flat]; done)))
    refine ⟨fun h => ?_, fun h => ?_⟩
    · rw [h, if_pos rfl] at hinv
      (apply hK
       exact ⟨l.length - (i + 1), _, by omega, Ent.weak (ids := []) (by simp) rfl (by simp) (by simp [objsLe, envLe, find, St.obj, AObj.renF, AV.renF, AV.renF1, Leaf.renF, LowAll, AV.Low, AV.Low1, Leaf.Low, AObj.Low, Ptr.renF, Ptr.Low] <;> try rfl) (by simp [objsLe, envLe, find, St.obj, AObj.renF, AV.renF, AV.renF1, Leaf.renF, LowAll, AV.Low, AV.Low1, Leaf.Low, AObj.Low, Ptr.renF, Ptr.Low] <;> try rfl) (by simp [objsLe, envLe, find, St.obj, AObj.renF, AV.renF, AV.renF1, Leaf.renF, LowAll, AV.Low, AV.Low1, Leaf.Low, AObj.Low, Ptr.renF, Ptr.Low]), i + 1, m + 1, by omega, rfl, ⟨by omega, by rw [codes, codes]; omega⟩, rfl⟩)
    · rw [h, if_neg (by simp)] at hinv
      (apply hK
       exact ⟨l.length - (i + 1), _, by omega, Ent.weak (ids := []) (by simp) rfl (by simp) (by simp [objsLe, envLe, find, St.obj, AObj.renF, AV.renF, AV.renF1, Leaf.renF, LowAll, AV.Low, AV.Low1, Leaf.Low, AObj.Low, Ptr.renF, Ptr.Low] <;> try rfl) (by simp [objsLe, envLe, find, St.obj, AObj.renF, AV.renF, AV.renF1, Leaf.renF, LowAll, AV.Low, AV.Low1, Leaf.Low, AObj.Low, Ptr.renF, Ptr.Low] <;> try rfl) (by simp [objsLe, envLe, find, St.obj, AObj.renF, AV.renF, AV.renF1, Leaf.renF, LowAll, AV.Low, AV.Low1, Leaf.Low, AObj.Low, Ptr.renF, Ptr.Low]), i + 1, m, by omega, rfl, ⟨by omega, by rw [codes, codes]; omega⟩, rfl⟩)
  · have hge' : l.length = i := by omega
    subst hge'
    have hdi : decide (((l.length : Nat) : Int) < ((l.length : Nat) : Int)) = false := by simp
    rw [List.drop_length] at hinv
    simp (maxSteps := 2000000) only [go_sem, ↓reduceIte, reduceCtorEq, Nat.reduceAdd, Nat.reduceMul, Nat.reduceSub, Nat.reduceLT, Nat.reduceLeDiff, Nat.reduceEqDiff, Int.reduceToNat, Int.reduceLT, Int.reduceLE, Int.reduceNeg, hdi]
    apply hK
    simp (maxSteps := 2000000) only [go_sem, ↓reduceIte, reduceCtorEq, Nat.reduceAdd, Nat.reduceMul, Nat.reduceSub, Nat.reduceLT, Nat.reduceLeDiff, Nat.reduceEqDiff, Int.reduceToNat, Int.reduceLT, Int.reduceLE, Int.reduceNeg]
    refine Fin.intro Try.results62 [] (by simp (maxSteps := 2000000) only [go_sem, ↓reduceIte, reduceCtorEq, Nat.reduceAdd, Nat.reduceMul, Nat.reduceSub, Nat.reduceLT, Nat.reduceLeDiff, Nat.reduceEqDiff, Int.reduceToNat, Int.reduceLT, Int.reduceLE, Int.reduceNeg, resA]; rfl) ?_ ?_ (by simp) rfl (by simp) ?_ <;> try trivial
    simp only [packA, AV.renF, AV.renF1, Leaf.renF, AV.one.injEq, Leaf.dat.injEq, D.bool.injEq, D.int.injEq, D.str.injEq, AV.agg.injEq, AV.tup.injEq, List.cons.injEq, and_true, true_and, List.map_cons, List.map_nil]
    simp [codes] at hinv ⊢
    omega
theorem c60 (l : List TEv) (hl : l.length ≤ maxLen) (c : Int) : Ctr Try.prog 60 [.one (.dat (.sl 6 (l.map encTEv))), .one (.dat (.int .i64 c))] [] (.one (.dat (.int .i64 (codes l c : Nat)))) [] := by
  refine Ctr.body mixed Try.func60 rfl (by kernel_rfl) (Nat.le_of_ble_eq_true rfl) (by simp [AV.Clean, AV.Clean1, Leaf.Clean, D.flat]) (by simp [AObj.Sep]) (by simp [AV.Low, AV.Low1, Leaf.Low]) ?_
  simp (maxSteps := 2000000) only [go_sem, ↓reduceIte, reduceCtorEq, Nat.reduceAdd, Nat.reduceMul, Nat.reduceSub, Nat.reduceLT, Nat.reduceLeDiff, Nat.reduceEqDiff, Int.reduceToNat, Int.reduceLT, Int.reduceLE, Int.reduceNeg]
  refine LoopK_intro (fun zn zs => ∃ (i : Nat) (m : Nat), i ≤ l.length ∧ zn = l.length - i ∧ (m ≤ i ∧ codes l c = m + codes (l.drop i) c) ∧ zs = mkSt [(6, .one (.dat (.int .i64 i))), (5, .one (.dat (.int .i64 (m : Nat)))), (0, .one (.dat (.sl 6 (l.map encTEv)))), (1, .one (.dat (.int .i64 c)))] []) (l.length) _
    (Ent.weak (ids := []) (by simp) rfl (by simp) (by simp [objsLe, envLe, find, St.obj, AObj.renF, AV.renF, AV.renF1, Leaf.renF, LowAll, AV.Low, AV.Low1, Leaf.Low, AObj.Low, Ptr.renF, Ptr.Low]) (by simp [objsLe, envLe, find, St.obj, AObj.renF, AV.renF, AV.renF1, Leaf.renF, LowAll, AV.Low, AV.Low1, Leaf.Low, AObj.Low, Ptr.renF, Ptr.Low]) (by simp [objsLe, envLe, find, St.obj, AObj.renF, AV.renF, AV.renF1, Leaf.renF, LowAll, AV.Low, AV.Low1, Leaf.Low, AObj.Low, Ptr.renF, Ptr.Low])) ⟨0, 0, by omega, by omega, by simp, rfl⟩ ?_
  rintro zn zs ⟨i, m, hi, rfl, hinv, rfl⟩ K hK
  rcases Nat.lt_or_ge i (l.length) with hlt | hge
  · have hdi : decide ((i : Int) < ((l.length : Nat) : Int)) = true := by simpa using hlt
    have hw := wrap_succ hlt hl
    obtain ⟨hm, hinv⟩ := hinv
    have hwm := wrap_succ (i := m) (by omega) hl
    rw [List.drop_eq_getElem_cons hlt, codes, codes, List.countP_cons] at hinv
    simp (maxSteps := 2000000) only [go_sem, ↓reduceIte, reduceCtorEq, Nat.reduceAdd, Nat.reduceMul, Nat.reduceSub, Nat.reduceLT, Nat.reduceLeDiff, Nat.reduceEqDiff, Int.reduceToNat, Int.reduceLT, Int.reduceLE, Int.reduceNeg, hdi, hw, getD_map hlt, encTEv, List.length_map, hwm]
    repeat ((with_reducible show _ ∧ _); refine ⟨?_, ?_⟩; focus ((intros; repeat' apply And.intro) <;> first | (with_reducible assumption) | omega | exact trivial | exact List.nodup_nil | exact List.not_mem_nil | (with_reducible rfl) | decide | (simp_all only [Bool.not_false, Bool.not_true]; done) | (simp only [List.length_map, List.length_append, List.length_cons, List.length_nil, encI]; omega) | exact rfl | ((try clear hK); simp_all [D.flat]; done)))
    refine ⟨fun h => ?_, fun h => ?_⟩
    · rw [h, if_pos rfl] at hinv
      (apply hK
       exact ⟨l.length - (i + 1), _, by omega, Ent.weak (ids := []) (by simp) rfl (by simp) (by simp [objsLe, envLe, find, St.obj, AObj.renF, AV.renF, AV.renF1, Leaf.renF, LowAll, AV.Low, AV.Low1, Leaf.Low, AObj.Low, Ptr.renF, Ptr.Low] <;> try rfl) (by simp [objsLe, envLe, find, St.obj, AObj.renF, AV.renF, AV.renF1, Leaf.renF, LowAll, AV.Low, AV.Low1, Leaf.Low, AObj.Low, Ptr.renF, Ptr.Low] <;> try rfl) (by simp [objsLe, envLe, find, St.obj, AObj.renF, AV.renF, AV.renF1, Leaf.renF, LowAll, AV.Low, AV.Low1, Leaf.Low, AObj.Low, Ptr.renF, Ptr.Low]), i + 1, m + 1, by omega, rfl, ⟨by omega, by rw [codes, codes]; omega⟩, rfl⟩)
    · rw [h, if_neg (by simp)] at hinv
      (apply hK
       exact ⟨l.length - (i + 1), _, by omega, Ent.weak (ids := []) (by simp) rfl (by simp) (by simp [objsLe, envLe, find, St.obj, AObj.renF, AV.renF, AV.renF1, Leaf.renF, LowAll, AV.Low, AV.Low1, Leaf.Low, AObj.Low, Ptr.renF, Ptr.Low] <;> try rfl) (by simp [objsLe, envLe, find, St.obj, AObj.renF, AV.renF, AV.renF1, Leaf.renF, LowAll, AV.Low, AV.Low1, Leaf.Low, AObj.Low, Ptr.renF, Ptr.Low] <;> try rfl) (by simp [objsLe, envLe, find, St.obj, AObj.renF, AV.renF, AV.renF1, Leaf.renF, LowAll, AV.Low, AV.Low1, Leaf.Low, AObj.Low, Ptr.renF, Ptr.Low]), i + 1, m, by omega, rfl, ⟨by omega, by rw [codes, codes]; omega⟩, rfl⟩)
  · have hge' : l.length = i := by omega
    subst hge'
    have hdi : decide (((l.length : Nat) : Int) < ((l.length : Nat) : Int)) = false := by simp
    rw [List.drop_length] at hinv
    simp (maxSteps := 2000000) only [go_sem, ↓reduceIte, reduceCtorEq, Nat.reduceAdd, Nat.reduceMul, Nat.reduceSub, Nat.reduceLT, Nat.reduceLeDiff, Nat.reduceEqDiff, Int.reduceToNat, Int.reduceLT, Int.reduceLE, Int.reduceNeg, hdi, List.length_map]
    apply hK
    simp (maxSteps := 2000000) only [go_sem, ↓reduceIte, reduceCtorEq, Nat.reduceAdd, Nat.reduceMul, Nat.reduceSub, Nat.reduceLT, Nat.reduceLeDiff, Nat.reduceEqDiff, Int.reduceToNat, Int.reduceLT, Int.reduceLE, Int.reduceNeg]
    refine Fin.intro Try.results60 [] (by simp (maxSteps := 2000000) only [go_sem, ↓reduceIte, reduceCtorEq, Nat.reduceAdd, Nat.reduceMul, Nat.reduceSub, Nat.reduceLT, Nat.reduceLeDiff, Nat.reduceEqDiff, Int.reduceToNat, Int.reduceLT, Int.reduceLE, Int.reduceNeg, resA]; rfl) ?_ ?_ (by simp) rfl (by simp) ?_ <;> try trivial
    simp only [packA, AV.renF, AV.renF1, Leaf.renF, AV.one.injEq, Leaf.dat.injEq, D.bool.injEq, D.int.injEq, D.str.injEq, AV.agg.injEq, AV.tup.injEq, List.cons.injEq, and_true, true_and, List.map_cons, List.map_nil]
    simp [codes] at hinv ⊢
    omega
theorem c107 (x : TEv) (k s : Int) : Ctr Try.prog 107 [.agg ((encTEv x).map .dat), .one (.ptr (.ro 1 [[.int .i64 k]] 0 0)), .one (.ptr (.ro 1 [[.int .i64 s]] 0 0))] [] (.one (.dat (.bool (evIs k s x)))) [] := by
  simp only [encTEv, List.map_cons, List.map_nil]
  refine Ctr.body mixed Try.func107 rfl (by kernel_rfl) (Nat.le_of_ble_eq_true rfl) (by simp [AV.Clean, AV.Clean1, Leaf.Clean, D.flat]) (by simp [AObj.Sep]) (by simp [AV.Low, AV.Low1, Leaf.Low]) ?_
  simp (maxSteps := 2000000) only [go_sem, ↓reduceIte, reduceCtorEq, Nat.reduceAdd, Nat.reduceMul, Nat.reduceSub, Nat.reduceLT, Nat.reduceLeDiff, Nat.reduceEqDiff, Int.reduceToNat, Int.reduceLT, Int.reduceLE, Int.reduceNeg]
  repeat ((with_reducible show _ ∧ _); refine ⟨?_, ?_⟩; focus ((intros; repeat' apply And.intro) <;> first | (with_reducible assumption) | omega | exact trivial | exact List.nodup_nil | exact List.not_mem_nil | (with_reducible rfl) | decide | (simp_all only [Bool.not_false, Bool.not_true]; done) | (simp only [List.length_map, List.length_append, List.length_cons, List.length_nil, encI]; omega) | exact rfl | ((try clear hK); simp_all [D.flat]; done)))
  refine Fin.intro Try.results107 [] (by simp (maxSteps := 2000000) only [go_sem, ↓reduceIte, reduceCtorEq, Nat.reduceAdd, Nat.reduceMul, Nat.reduceSub, Nat.reduceLT, Nat.reduceLeDiff, Nat.reduceEqDiff, Int.reduceToNat, Int.reduceLT, Int.reduceLE, Int.reduceNeg, resA]; rfl) ?_ ?_ (by simp) rfl (by simp) ?_ <;> try trivial
theorem c65 (l : List TEv) (hl : l.length ≤ maxLen) (k s : Int) : Ctr Try.prog 65 [.one (.dat (.sl 6 (l.map encTEv))), .one (.dat (.int .i64 k)), .one (.dat (.int .i64 s))] [] (.one (.dat (.int .i64 (placeOf l k s)))) [] := by
  refine Ctr.body mixed Try.func65 rfl (by kernel_rfl) (Nat.le_of_ble_eq_true rfl) (by simp [AV.Clean, AV.Clean1, Leaf.Clean, D.flat]) (by simp [AObj.Sep]) (by simp [AV.Low, AV.Low1, Leaf.Low]) ?_
  simp (maxSteps := 2000000) only [go_sem, ↓reduceIte, reduceCtorEq, Nat.reduceAdd, Nat.reduceMul, Nat.reduceSub, Nat.reduceLT, Nat.reduceLeDiff, Nat.reduceEqDiff, Int.reduceToNat, Int.reduceLT, Int.reduceLE, Int.reduceNeg]
  first | refine CallK_pure e106 (c106_k2 l hl e107 (fun x _ => c107 x k s)) rfl ?_ | refine Or.inr ⟨by kernel_rfl, EffK_pure e106 (c106_k2 l hl e107 (fun x _ => c107 x k s)) rfl ?_⟩ | refine Or.inr (EffK_pure e106 (c106_k2 l hl e107 (fun x _ => c107 x k s)) rfl ?_) | refine CCallK_plain e106 (c106_k2 l hl e107 (fun x _ => c107 x k s)) rfl rfl ?_ (by intro h; first | exact trivial | exact h | exact ⟨h, h⟩ | (cases h; done) | (simp; done) | (simp_all only [Bool.not_false, Bool.not_true, and_self]; done)) | refine Or.inl (CCallK_plain e106 (c106_k2 l hl e107 (fun x _ => c107 x k s)) rfl rfl ?_ (by intro h; first | exact trivial | exact h | exact ⟨h, h⟩ | (cases h; done) | (simp; done) | (simp_all only [Bool.not_false, Bool.not_true, and_self]; done)))
  simp (maxSteps := 2000000) only [go_sem, ↓reduceIte, reduceCtorEq, Nat.reduceAdd, Nat.reduceMul, Nat.reduceSub, Nat.reduceLT, Nat.reduceLeDiff, Nat.reduceEqDiff, Int.reduceToNat, Int.reduceLT, Int.reduceLE, Int.reduceNeg]
  refine Fin.intro Try.results65 [] (by simp (maxSteps := 2000000) only [go_sem, ↓reduceIte, reduceCtorEq, Nat.reduceAdd, Nat.reduceMul, Nat.reduceSub, Nat.reduceLT, Nat.reduceLeDiff, Nat.reduceEqDiff, Int.reduceToNat, Int.reduceLT, Int.reduceLE, Int.reduceNeg, resA]; rfl) ?_ ?_ (by simp) rfl (by simp) ?_ <;> try trivial
theorem c64 (l : List TEv) (hl : l.length ≤ maxLen) (k s : Int) : Ctr Try.prog 64 [.one (.dat (.sl 6 (l.map encTEv))), .one (.dat (.int .i64 k)), .one (.dat (.int .i64 s))] [] (.one (.dat (.int .i64 (placeOf l k s)))) [] := by
  refine Ctr.body mixed Try.func64 rfl (by kernel_rfl) (Nat.le_of_ble_eq_true rfl) (by simp [AV.Clean, AV.Clean1, Leaf.Clean, D.flat]) (by simp [AObj.Sep]) (by simp [AV.Low, AV.Low1, Leaf.Low]) ?_
  simp (maxSteps := 2000000) only [go_sem, ↓reduceIte, reduceCtorEq, Nat.reduceAdd, Nat.reduceMul, Nat.reduceSub, Nat.reduceLT, Nat.reduceLeDiff, Nat.reduceEqDiff, Int.reduceToNat, Int.reduceLT, Int.reduceLE, Int.reduceNeg]
  refine LoopK_intro (fun zn zs => ∃ i : Nat, i ≤ l.length ∧ zn = l.length - i ∧ (∀ j (hj : j < l.length), j < i → evIs k s l[j] = false) ∧ zs = mkSt [(7, .one (.dat (.int .i64 i))), (0, .one (.dat (.sl 6 (l.map encTEv)))), (1, .one (.dat (.int .i64 k))), (2, .one (.dat (.int .i64 s)))] []) (l.length) _
    (Ent.weak (ids := []) (by simp) rfl (by simp) (by simp [objsLe, envLe, find, St.obj, AObj.renF, AV.renF, AV.renF1, Leaf.renF, LowAll, AV.Low, AV.Low1, Leaf.Low, AObj.Low, Ptr.renF, Ptr.Low]) (by simp [objsLe, envLe, find, St.obj, AObj.renF, AV.renF, AV.renF1, Leaf.renF, LowAll, AV.Low, AV.Low1, Leaf.Low, AObj.Low, Ptr.renF, Ptr.Low]) (by simp [objsLe, envLe, find, St.obj, AObj.renF, AV.renF, AV.renF1, Leaf.renF, LowAll, AV.Low, AV.Low1, Leaf.Low, AObj.Low, Ptr.renF, Ptr.Low])) ⟨0, by omega, by omega, by simp, rfl⟩ ?_
  rintro zn zs ⟨i, hi, rfl, hinv, rfl⟩ K hK
  rcases Nat.lt_or_ge i (l.length) with hlt | hge
  · have hdi : decide ((i : Int) < ((l.length : Nat) : Int)) = true := by simpa using hlt
    have hw := wrap_succ hlt hl
    simp (maxSteps := 2000000) only [go_sem, ↓reduceIte, reduceCtorEq, Nat.reduceAdd, Nat.reduceMul, Nat.reduceSub, Nat.reduceLT, Nat.reduceLeDiff, Nat.reduceEqDiff, Int.reduceToNat, Int.reduceLT, Int.reduceLE, Int.reduceNeg, hdi, hw, getD_map hlt, encTEv, List.length_map]
    repeat ((with_reducible show _ ∧ _); refine ⟨?_, ?_⟩; focus ((intros; repeat' apply And.intro) <;> first | (with_reducible assumption) | omega | exact trivial | exact List.nodup_nil | exact List.not_mem_nil | (with_reducible rfl) | decide | (simp_all only [Bool.not_false, Bool.not_true]; done) | (simp only [List.length_map, List.length_append, List.length_cons, List.length_nil, encI]; omega) | exact rfl | ((try clear hK); simp_all [D.flat]; done)))
    refine ⟨fun h => ?_, fun h => ?_⟩
    · apply hK
      simp (maxSteps := 2000000) only [go_sem, ↓reduceIte, reduceCtorEq, Nat.reduceAdd, Nat.reduceMul, Nat.reduceSub, Nat.reduceLT, Nat.reduceLeDiff, Nat.reduceEqDiff, Int.reduceToNat, Int.reduceLT, Int.reduceLE, Int.reduceNeg]
      refine Fin.intro Try.results64 [] (by simp (maxSteps := 2000000) only [go_sem, ↓reduceIte, reduceCtorEq, Nat.reduceAdd, Nat.reduceMul, Nat.reduceSub, Nat.reduceLT, Nat.reduceLeDiff, Nat.reduceEqDiff, Int.reduceToNat, Int.reduceLT, Int.reduceLE, Int.reduceNeg, resA]; rfl) ?_ ?_ (by simp) rfl (by simp) ?_ <;> try trivial
      simp only [packA, AV.renF, AV.renF1, Leaf.renF, AV.one.injEq, Leaf.dat.injEq, D.bool.injEq, D.int.injEq, D.str.injEq, AV.agg.injEq, AV.tup.injEq, List.cons.injEq, and_true, true_and, List.map_cons, List.map_nil]
      exact (ixF_some hlt h hinv).symm
    · (apply hK
       exact ⟨l.length - (i + 1), _, by omega, Ent.weak (ids := []) (by simp) rfl (by simp) (by simp [objsLe, envLe, find, St.obj, AObj.renF, AV.renF, AV.renF1, Leaf.renF, LowAll, AV.Low, AV.Low1, Leaf.Low, AObj.Low, Ptr.renF, Ptr.Low] <;> try rfl) (by simp [objsLe, envLe, find, St.obj, AObj.renF, AV.renF, AV.renF1, Leaf.renF, LowAll, AV.Low, AV.Low1, Leaf.Low, AObj.Low, Ptr.renF, Ptr.Low] <;> try rfl) (by simp [objsLe, envLe, find, St.obj, AObj.renF, AV.renF, AV.renF1, Leaf.renF, LowAll, AV.Low, AV.Low1, Leaf.Low, AObj.Low, Ptr.renF, Ptr.Low]), i + 1, by omega, rfl, fun j hj hji => if e : j = i then by subst e; exact h else hinv j hj (by omega), rfl⟩)
  · have hge' : l.length = i := by omega
    subst hge'
    have hdi : decide (((l.length : Nat) : Int) < ((l.length : Nat) : Int)) = false := by simp
    simp (maxSteps := 2000000) only [go_sem, ↓reduceIte, reduceCtorEq, Nat.reduceAdd, Nat.reduceMul, Nat.reduceSub, Nat.reduceLT, Nat.reduceLeDiff, Nat.reduceEqDiff, Int.reduceToNat, Int.reduceLT, Int.reduceLE, Int.reduceNeg, hdi, List.length_map]
    apply hK
    simp (maxSteps := 2000000) only [go_sem, ↓reduceIte, reduceCtorEq, Nat.reduceAdd, Nat.reduceMul, Nat.reduceSub, Nat.reduceLT, Nat.reduceLeDiff, Nat.reduceEqDiff, Int.reduceToNat, Int.reduceLT, Int.reduceLE, Int.reduceNeg]
    refine Fin.intro Try.results64 [] (by simp (maxSteps := 2000000) only [go_sem, ↓reduceIte, reduceCtorEq, Nat.reduceAdd, Nat.reduceMul, Nat.reduceSub, Nat.reduceLT, Nat.reduceLeDiff, Nat.reduceEqDiff, Int.reduceToNat, Int.reduceLT, Int.reduceLE, Int.reduceNeg, resA]; rfl) ?_ ?_ (by simp) rfl (by simp) ?_ <;> try trivial
    simp only [packA, AV.renF, AV.renF1, Leaf.renF, AV.one.injEq, Leaf.dat.injEq, D.bool.injEq, D.int.injEq, D.str.injEq, AV.agg.injEq, AV.tup.injEq, List.cons.injEq, and_true, true_and, List.map_cons, List.map_nil]
    exact (ixF_none fun j hj => hinv j hj hj).symm
theorem c67 (l : List TEv) (hl : l.length ≤ maxLen) (a b : Int) : Ctr Try.prog 67 [.one (.dat (.sl 6 (l.map encTEv))), .one (.dat (.int .i64 a)), .one (.dat (.int .i64 b))] [] (.one (.dat (.bool (inTime l a b)))) [] := by
  refine Ctr.body mixed Try.func67 rfl (by kernel_rfl) (Nat.le_of_ble_eq_true rfl) (by simp [AV.Clean, AV.Clean1, Leaf.Clean, D.flat]) (by simp [AObj.Sep]) (by simp [AV.Low, AV.Low1, Leaf.Low]) ?_
  simp (maxSteps := 2000000) only [go_sem, ↓reduceIte, reduceCtorEq, Nat.reduceAdd, Nat.reduceMul, Nat.reduceSub, Nat.reduceLT, Nat.reduceLeDiff, Nat.reduceEqDiff, Int.reduceToNat, Int.reduceLT, Int.reduceLE, Int.reduceNeg]
  first | refine CallK_pure e65 (c65 l hl 3 a) rfl ?_ | refine Or.inr ⟨by kernel_rfl, EffK_pure e65 (c65 l hl 3 a) rfl ?_⟩ | refine Or.inr (EffK_pure e65 (c65 l hl 3 a) rfl ?_) | refine CCallK_plain e65 (c65 l hl 3 a) rfl rfl ?_ (by intro h; first | exact trivial | exact h | exact ⟨h, h⟩ | (cases h; done) | (simp; done) | (simp_all only [Bool.not_false, Bool.not_true, and_self]; done)) | refine Or.inl (CCallK_plain e65 (c65 l hl 3 a) rfl rfl ?_ (by intro h; first | exact trivial | exact h | exact ⟨h, h⟩ | (cases h; done) | (simp; done) | (simp_all only [Bool.not_false, Bool.not_true, and_self]; done)))
  simp (maxSteps := 2000000) only [go_sem, ↓reduceIte, reduceCtorEq, Nat.reduceAdd, Nat.reduceMul, Nat.reduceSub, Nat.reduceLT, Nat.reduceLeDiff, Nat.reduceEqDiff, Int.reduceToNat, Int.reduceLT, Int.reduceLE, Int.reduceNeg]
  first | refine CallK_pure e65 (c65 l hl 1 b) rfl ?_ | refine Or.inr ⟨by kernel_rfl, EffK_pure e65 (c65 l hl 1 b) rfl ?_⟩ | refine Or.inr (EffK_pure e65 (c65 l hl 1 b) rfl ?_) | refine CCallK_plain e65 (c65 l hl 1 b) rfl rfl ?_ (by intro h; first | exact trivial | exact h | exact ⟨h, h⟩ | (cases h; done) | (simp; done) | (simp_all only [Bool.not_false, Bool.not_true, and_self]; done)) | refine Or.inl (CCallK_plain e65 (c65 l hl 1 b) rfl rfl ?_ (by intro h; first | exact trivial | exact h | exact ⟨h, h⟩ | (cases h; done) | (simp; done) | (simp_all only [Bool.not_false, Bool.not_true, and_self]; done)))
  simp (maxSteps := 2000000) only [go_sem, ↓reduceIte, reduceCtorEq, Nat.reduceAdd, Nat.reduceMul, Nat.reduceSub, Nat.reduceLT, Nat.reduceLeDiff, Nat.reduceEqDiff, Int.reduceToNat, Int.reduceLT, Int.reduceLE, Int.reduceNeg]
  repeat ((with_reducible show _ ∧ _); refine ⟨?_, ?_⟩; focus ((intros; repeat' apply And.intro) <;> first | (with_reducible assumption) | omega | exact trivial | exact List.nodup_nil | exact List.not_mem_nil | (with_reducible rfl) | decide | (simp_all only [Bool.not_false, Bool.not_true]; done) | (simp only [List.length_map, List.length_append, List.length_cons, List.length_nil, encI]; omega) | exact rfl | ((try clear hK); simp_all [D.flat]; done)))
  refine Fin.intro Try.results67 [] (by simp (maxSteps := 2000000) only [go_sem, ↓reduceIte, reduceCtorEq, Nat.reduceAdd, Nat.reduceMul, Nat.reduceSub, Nat.reduceLT, Nat.reduceLeDiff, Nat.reduceEqDiff, Int.reduceToNat, Int.reduceLT, Int.reduceLE, Int.reduceNeg, resA]; rfl) ?_ ?_ (by simp) rfl (by simp) ?_ <;> try trivial
  simp only [packA, AV.renF, AV.renF1, Leaf.renF, AV.one.injEq, Leaf.dat.injEq, D.bool.injEq, D.int.injEq, D.str.injEq, AV.agg.injEq, AV.tup.injEq, List.cons.injEq, and_true, true_and, List.map_cons, List.map_nil]
  simp only [inTime]
  cases decide (0 ≤ placeOf l 3 a) <;> cases decide (0 ≤ placeOf l 1 b) <;> rfl
theorem c66 (l : List TEv) (hl : l.length ≤ maxLen) (a b : Int) : Ctr Try.prog 66 [.one (.dat (.sl 6 (l.map encTEv))), .one (.dat (.int .i64 a)), .one (.dat (.int .i64 b))] [] (.one (.dat (.bool (inTime l a b)))) [] := by
  refine Ctr.body mixed Try.func66 rfl (by kernel_rfl) (Nat.le_of_ble_eq_true rfl) (by simp [AV.Clean, AV.Clean1, Leaf.Clean, D.flat]) (by simp [AObj.Sep]) (by simp [AV.Low, AV.Low1, Leaf.Low]) ?_
  simp (maxSteps := 2000000) only [go_sem, ↓reduceIte, reduceCtorEq, Nat.reduceAdd, Nat.reduceMul, Nat.reduceSub, Nat.reduceLT, Nat.reduceLeDiff, Nat.reduceEqDiff, Int.reduceToNat, Int.reduceLT, Int.reduceLE, Int.reduceNeg]
  first | refine CallK_pure e64 (c64 l hl 3 a) rfl ?_ | refine Or.inr ⟨by kernel_rfl, EffK_pure e64 (c64 l hl 3 a) rfl ?_⟩ | refine Or.inr (EffK_pure e64 (c64 l hl 3 a) rfl ?_) | refine CCallK_plain e64 (c64 l hl 3 a) rfl rfl ?_ (by intro h; first | exact trivial | exact h | exact ⟨h, h⟩ | (cases h; done) | (simp; done) | (simp_all only [Bool.not_false, Bool.not_true, and_self]; done)) | refine Or.inl (CCallK_plain e64 (c64 l hl 3 a) rfl rfl ?_ (by intro h; first | exact trivial | exact h | exact ⟨h, h⟩ | (cases h; done) | (simp; done) | (simp_all only [Bool.not_false, Bool.not_true, and_self]; done)))
  simp (maxSteps := 2000000) only [go_sem, ↓reduceIte, reduceCtorEq, Nat.reduceAdd, Nat.reduceMul, Nat.reduceSub, Nat.reduceLT, Nat.reduceLeDiff, Nat.reduceEqDiff, Int.reduceToNat, Int.reduceLT, Int.reduceLE, Int.reduceNeg]
  first | refine CallK_pure e64 (c64 l hl 1 b) rfl ?_ | refine Or.inr ⟨by kernel_rfl, EffK_pure e64 (c64 l hl 1 b) rfl ?_⟩ | refine Or.inr (EffK_pure e64 (c64 l hl 1 b) rfl ?_) | refine CCallK_plain e64 (c64 l hl 1 b) rfl rfl ?_ (by intro h; first | exact trivial | exact h | exact ⟨h, h⟩ | (cases h; done) | (simp; done) | (simp_all only [Bool.not_false, Bool.not_true, and_self]; done)) | refine Or.inl (CCallK_plain e64 (c64 l hl 1 b) rfl rfl ?_ (by intro h; first | exact trivial | exact h | exact ⟨h, h⟩ | (cases h; done) | (simp; done) | (simp_all only [Bool.not_false, Bool.not_true, and_self]; done)))
  simp (maxSteps := 2000000) only [go_sem, ↓reduceIte, reduceCtorEq, Nat.reduceAdd, Nat.reduceMul, Nat.reduceSub, Nat.reduceLT, Nat.reduceLeDiff, Nat.reduceEqDiff, Int.reduceToNat, Int.reduceLT, Int.reduceLE, Int.reduceNeg]
  repeat ((with_reducible show _ ∧ _); refine ⟨?_, ?_⟩; focus ((intros; repeat' apply And.intro) <;> first | (with_reducible assumption) | omega | exact trivial | exact List.nodup_nil | exact List.not_mem_nil | (with_reducible rfl) | decide | (simp_all only [Bool.not_false, Bool.not_true]; done) | (simp only [List.length_map, List.length_append, List.length_cons, List.length_nil, encI]; omega) | exact rfl | ((try clear hK); simp_all [D.flat]; done)))
  refine Fin.intro Try.results66 [] (by simp (maxSteps := 2000000) only [go_sem, ↓reduceIte, reduceCtorEq, Nat.reduceAdd, Nat.reduceMul, Nat.reduceSub, Nat.reduceLT, Nat.reduceLeDiff, Nat.reduceEqDiff, Int.reduceToNat, Int.reduceLT, Int.reduceLE, Int.reduceNeg, resA]; rfl) ?_ ?_ (by simp) rfl (by simp) ?_ <;> try trivial
  simp only [packA, AV.renF, AV.renF1, Leaf.renF, AV.one.injEq, Leaf.dat.injEq, D.bool.injEq, D.int.injEq, D.str.injEq, AV.agg.injEq, AV.tup.injEq, List.cons.injEq, and_true, true_and, List.map_cons, List.map_nil]
  simp only [inTime]
  cases decide (0 ≤ placeOf l 3 a) <;> cases decide (0 ≤ placeOf l 1 b) <;> rfl
def told (L : List TEv) (s : Int) : Bool := match L.find? (evIs 3 s) with
  | some e => e.Code == 0
  | none => false
theorem told_none {L : List TEv} {s : Int} (h : ∀ j (hj : j < L.length), evIs 3 s L[j] = false) : told L s = false := by
  unfold told
  have : L.find? (evIs 3 s) = none := by
    rw [List.find?_eq_none]
    intro x hx
    obtain ⟨j, hj, rfl⟩ := List.getElem_of_mem hx
    simp [h j hj]
  rw [this]
theorem told_some {L : List TEv} {s : Int} {i : Nat} (hi : i < L.length) (hp : evIs 3 s L[i] = true) (h : ∀ j (hj : j < L.length), j < i → evIs 3 s L[j] = false) : told L s = (L[i].Code == 0) := by
  unfold told
  have : L.find? (evIs 3 s) = some L[i] := by
    rw [List.find?_eq_some_iff_getElem]
    refine ⟨hp, i, hi, rfl, fun j hj => ?_⟩
    simp [h j (by omega) hj]
  rw [this]
def orderGo (L : List TEv) (o : List Int) : List TEv → List Int
  | [] => o
  | e :: r => orderGo L (bif (bif e.Kind != 2 then true else o.any fun x => x == e.Serial) then o else bif told L e.Serial then o ++ [e.Serial] else o) r
def order (L : List TEv) : List Int := orderGo L [] L
theorem orderGo_len (L : List TEv) : ∀ (r : List TEv) (o : List Int), (orderGo L o r).length ≤ o.length + r.length
  | [], o => by simp [orderGo]
  | e :: r, o => by
    unfold orderGo
    refine Nat.le_trans (orderGo_len L r _) ?_
    cases (bif e.Kind != 2 then true else o.any fun x => x == e.Serial) <;> cases told L e.Serial <;> simp <;> omega
theorem order_len (L : List TEv) : (order L).length ≤ L.length := by have := orderGo_len L L []; simpa [order] using this
theorem c119 (l : List Int) (hl : l.length ≤ maxLen) (x : Int) : Ctr Try.prog 119 [.one (.dat (.sl 1 (l.map encI))), .one (.dat (.int .i64 x))] [] (.one (.dat (.bool (l.any fun y => y == x)))) [] := by
  refine Ctr.body mixed Try.func119 rfl (by kernel_rfl) (Nat.le_of_ble_eq_true rfl) (by simp [AV.Clean, AV.Clean1, Leaf.Clean, D.flat]) (by simp [AObj.Sep]) (by simp [AV.Low, AV.Low1, Leaf.Low]) ?_
  simp (maxSteps := 2000000) only [go_sem, ↓reduceIte, reduceCtorEq, Nat.reduceAdd, Nat.reduceMul, Nat.reduceSub, Nat.reduceLT, Nat.reduceLeDiff, Nat.reduceEqDiff, Int.reduceToNat, Int.reduceLT, Int.reduceLE, Int.reduceNeg]
  refine LoopK_intro (fun zn zs => ∃ i : Nat, i ≤ l.length ∧ zn = l.length - i ∧ ((l.any fun y => y == x) = ((l.drop i).any fun y => y == x)) ∧ zs = mkSt [(5, .one (.dat (.int .i64 i))), (0, .one (.dat (.sl 1 (l.map encI)))), (1, .one (.dat (.int .i64 x)))] []) (l.length) _
    (Ent.weak (ids := []) (by simp) rfl (by simp) (by simp [objsLe, envLe, find, St.obj, AObj.renF, AV.renF, AV.renF1, Leaf.renF, LowAll, AV.Low, AV.Low1, Leaf.Low, AObj.Low, Ptr.renF, Ptr.Low]) (by simp [objsLe, envLe, find, St.obj, AObj.renF, AV.renF, AV.renF1, Leaf.renF, LowAll, AV.Low, AV.Low1, Leaf.Low, AObj.Low, Ptr.renF, Ptr.Low]) (by simp [objsLe, envLe, find, St.obj, AObj.renF, AV.renF, AV.renF1, Leaf.renF, LowAll, AV.Low, AV.Low1, Leaf.Low, AObj.Low, Ptr.renF, Ptr.Low])) ⟨0, by omega, by omega, by simp, rfl⟩ ?_
  rintro zn zs ⟨i, hi, rfl, hinv, rfl⟩ K hK
  rcases Nat.lt_or_ge i (l.length) with hlt | hge
  · have hdi : decide ((i : Int) < ((l.length : Nat) : Int)) = true := by simpa using hlt
    have hw := wrap_succ hlt hl
    rw [List.drop_eq_getElem_cons hlt, List.any_cons] at hinv
    simp (maxSteps := 2000000) only [go_sem, ↓reduceIte, reduceCtorEq, Nat.reduceAdd, Nat.reduceMul, Nat.reduceSub, Nat.reduceLT, Nat.reduceLeDiff, Nat.reduceEqDiff, Int.reduceToNat, Int.reduceLT, Int.reduceLE, Int.reduceNeg, hdi, hw, getD_map hlt, encI, List.length_map]
    repeat ((with_reducible show _ ∧ _); refine ⟨?_, ?_⟩; focus ((intros; repeat' apply And.intro) <;> first | (with_reducible assumption) | omega | exact trivial | exact List.nodup_nil | exact List.not_mem_nil | (with_reducible rfl) | decide | (simp_all only [Bool.not_false, Bool.not_true]; done) | (simp only [List.length_map, List.length_append, List.length_cons, List.length_nil, encI]; omega) | exact rfl | ((try clear hK); simp_all [D.flat]; done)))
    refine ⟨fun h => ?_, fun h => ?_⟩
    · apply hK
      simp (maxSteps := 2000000) only [go_sem, ↓reduceIte, reduceCtorEq, Nat.reduceAdd, Nat.reduceMul, Nat.reduceSub, Nat.reduceLT, Nat.reduceLeDiff, Nat.reduceEqDiff, Int.reduceToNat, Int.reduceLT, Int.reduceLE, Int.reduceNeg]
      refine Fin.intro Try.results119 [] (by simp (maxSteps := 2000000) only [go_sem, ↓reduceIte, reduceCtorEq, Nat.reduceAdd, Nat.reduceMul, Nat.reduceSub, Nat.reduceLT, Nat.reduceLeDiff, Nat.reduceEqDiff, Int.reduceToNat, Int.reduceLT, Int.reduceLE, Int.reduceNeg, resA]; rfl) ?_ ?_ (by simp) rfl (by simp) ?_ <;> try trivial
      simp only [packA, AV.renF, AV.renF1, Leaf.renF, AV.one.injEq, Leaf.dat.injEq, D.bool.injEq, D.int.injEq, D.str.injEq, AV.agg.injEq, AV.tup.injEq, List.cons.injEq, and_true, true_and, List.map_cons, List.map_nil]
      rw [hinv, h, Bool.true_or]
    · rw [h, Bool.false_or] at hinv
      (apply hK
       exact ⟨l.length - (i + 1), _, by omega, Ent.weak (ids := []) (by simp) rfl (by simp) (by simp [objsLe, envLe, find, St.obj, AObj.renF, AV.renF, AV.renF1, Leaf.renF, LowAll, AV.Low, AV.Low1, Leaf.Low, AObj.Low, Ptr.renF, Ptr.Low] <;> try rfl) (by simp [objsLe, envLe, find, St.obj, AObj.renF, AV.renF, AV.renF1, Leaf.renF, LowAll, AV.Low, AV.Low1, Leaf.Low, AObj.Low, Ptr.renF, Ptr.Low] <;> try rfl) (by simp [objsLe, envLe, find, St.obj, AObj.renF, AV.renF, AV.renF1, Leaf.renF, LowAll, AV.Low, AV.Low1, Leaf.Low, AObj.Low, Ptr.renF, Ptr.Low]), i + 1, by omega, rfl, hinv, rfl⟩)
  · have hge' : l.length = i := by omega
    subst hge'
    have hdi : decide (((l.length : Nat) : Int) < ((l.length : Nat) : Int)) = false := by simp
    simp (maxSteps := 2000000) only [go_sem, ↓reduceIte, reduceCtorEq, Nat.reduceAdd, Nat.reduceMul, Nat.reduceSub, Nat.reduceLT, Nat.reduceLeDiff, Nat.reduceEqDiff, Int.reduceToNat, Int.reduceLT, Int.reduceLE, Int.reduceNeg, hdi, List.length_map]
    apply hK
    simp (maxSteps := 2000000) only [go_sem, ↓reduceIte, reduceCtorEq, Nat.reduceAdd, Nat.reduceMul, Nat.reduceSub, Nat.reduceLT, Nat.reduceLeDiff, Nat.reduceEqDiff, Int.reduceToNat, Int.reduceLT, Int.reduceLE, Int.reduceNeg]
    refine Fin.intro Try.results119 [] (by simp (maxSteps := 2000000) only [go_sem, ↓reduceIte, reduceCtorEq, Nat.reduceAdd, Nat.reduceMul, Nat.reduceSub, Nat.reduceLT, Nat.reduceLeDiff, Nat.reduceEqDiff, Int.reduceToNat, Int.reduceLT, Int.reduceLE, Int.reduceNeg, resA]; rfl) ?_ ?_ (by simp) rfl (by simp) ?_ <;> try trivial
    simp only [packA, AV.renF, AV.renF1, Leaf.renF, AV.one.injEq, Leaf.dat.injEq, D.bool.injEq, D.int.injEq, D.str.injEq, AV.agg.injEq, AV.tup.injEq, List.cons.injEq, and_true, true_and, List.map_cons, List.map_nil]
    rw [hinv]; simp
theorem c108 (l : List TEv) (hl : l.length ≤ 16777216) : Ctr Try.prog 108 [.one (.dat (.sl 6 (l.map encTEv)))] [] (.one (.own 0)) [.vec 1 true ((order l).map encI)] := by
  have hl' : l.length ≤ maxLen := Nat.le_trans hl (by decide)
  refine Ctr.body mixed Try.func108 rfl (by kernel_rfl) (Nat.le_of_ble_eq_true rfl) (by simp [AV.Clean, AV.Clean1, Leaf.Clean, D.flat]) (by simp [AObj.Sep]) (by simp [AV.Low, AV.Low1, Leaf.Low]) ?_
  simp (maxSteps := 2000000) only [go_sem, ↓reduceIte, reduceCtorEq, Nat.reduceAdd, Nat.reduceMul, Nat.reduceSub, Nat.reduceLT, Nat.reduceLeDiff, Nat.reduceEqDiff, Int.reduceToNat, Int.reduceLT, Int.reduceLE, Int.reduceNeg]
  repeat ((with_reducible show _ ∧ _); refine ⟨?_, ?_⟩; focus ((intros; repeat' apply And.intro) <;> first | (with_reducible assumption) | omega | exact trivial | exact List.nodup_nil | exact List.not_mem_nil | (with_reducible rfl) | decide | (simp_all only [Bool.not_false, Bool.not_true]; done) | (simp only [List.length_map, List.length_append, List.length_cons, List.length_nil, encI]; omega) | exact rfl | ((try clear hK); simp_all [D.flat]; done)))
  refine LoopK_intro (fun zn zs => ∃ (i : Nat) (o : List Int), i ≤ l.length ∧ zn = l.length - i ∧ (o.length ≤ i ∧ order l = orderGo l o (l.drop i)) ∧ zs = mkSt [(4, .one (.dat (.int .i64 i))), (3, .one (.own 0)), (0, .one (.dat (.sl 6 (l.map encTEv))))] [.vec 1 true (o.map encI)]) (l.length) _
    (Ent.weak (ids := [0]) (by simp) rfl (by simp) (by simp [objsLe, envLe, find, St.obj, AObj.renF, AV.renF, AV.renF1, Leaf.renF, LowAll, AV.Low, AV.Low1, Leaf.Low, AObj.Low, Ptr.renF, Ptr.Low]) (by simp [objsLe, envLe, find, St.obj, AObj.renF, AV.renF, AV.renF1, Leaf.renF, LowAll, AV.Low, AV.Low1, Leaf.Low, AObj.Low, Ptr.renF, Ptr.Low]) (by simp [objsLe, envLe, find, St.obj, AObj.renF, AV.renF, AV.renF1, Leaf.renF, LowAll, AV.Low, AV.Low1, Leaf.Low, AObj.Low, Ptr.renF, Ptr.Low])) ⟨0, [], by omega, by omega, ⟨by simp, rfl⟩, rfl⟩ ?_
  rintro zn zs ⟨i, o, hi, rfl, hinv, rfl⟩ K hK
  rcases Nat.lt_or_ge i (l.length) with hlt | hge
  · have hdi : decide ((i : Int) < ((l.length : Nat) : Int)) = true := by simpa using hlt
    have hw := wrap_succ hlt hl'
    obtain ⟨ho, hinv⟩ := hinv
    have hmx : maxLen = 9223372036854775807 := rfl
    rw [List.drop_eq_getElem_cons hlt, orderGo] at hinv
    simp (maxSteps := 2000000) only [go_sem, ↓reduceIte, reduceCtorEq, Nat.reduceAdd, Nat.reduceMul, Nat.reduceSub, Nat.reduceLT, Nat.reduceLeDiff, Nat.reduceEqDiff, Int.reduceToNat, Int.reduceLT, Int.reduceLE, Int.reduceNeg, hdi, hw, getD_map hlt, encTEv, List.length_map]
    repeat ((with_reducible show _ ∧ _); refine ⟨?_, ?_⟩; focus ((intros; repeat' apply And.intro) <;> first | (with_reducible assumption) | omega | exact trivial | exact List.nodup_nil | exact List.not_mem_nil | (with_reducible rfl) | decide | (simp_all only [Bool.not_false, Bool.not_true]; done) | (simp only [List.length_map, List.length_append, List.length_cons, List.length_nil, encI]; omega) | exact rfl | ((try clear hK); simp_all [D.flat]; done)))
    first | refine CallK_pure e119 (c119 o (by omega) l[i].Serial) rfl ?_ | refine Or.inr ⟨by kernel_rfl, EffK_pure e119 (c119 o (by omega) l[i].Serial) rfl ?_⟩ | refine Or.inr (EffK_pure e119 (c119 o (by omega) l[i].Serial) rfl ?_) | refine CCallK_plain e119 (c119 o (by omega) l[i].Serial) rfl rfl ?_ (by intro h; first | exact trivial | exact h | exact ⟨h, h⟩ | (cases h; done) | (simp; done) | (simp_all only [Bool.not_false, Bool.not_true, and_self]; done)) | refine Or.inl (CCallK_plain e119 (c119 o (by omega) l[i].Serial) rfl rfl ?_ (by intro h; first | exact trivial | exact h | exact ⟨h, h⟩ | (cases h; done) | (simp; done) | (simp_all only [Bool.not_false, Bool.not_true, and_self]; done)))
    simp (maxSteps := 2000000) only [go_sem, ↓reduceIte, reduceCtorEq, Nat.reduceAdd, Nat.reduceMul, Nat.reduceSub, Nat.reduceLT, Nat.reduceLeDiff, Nat.reduceEqDiff, Int.reduceToNat, Int.reduceLT, Int.reduceLE, Int.reduceNeg, hdi, hw, getD_map hlt, encTEv, List.length_map]
    repeat ((with_reducible show _ ∧ _); refine ⟨?_, ?_⟩; focus ((intros; repeat' apply And.intro) <;> first | (with_reducible assumption) | omega | exact trivial | exact List.nodup_nil | exact List.not_mem_nil | (with_reducible rfl) | decide | (simp_all only [Bool.not_false, Bool.not_true]; done) | (simp only [List.length_map, List.length_append, List.length_cons, List.length_nil, encI]; omega) | exact rfl | ((try clear hK); simp_all [D.flat]; done)))
    refine ⟨fun h => ?_, fun h => ?_⟩
    · rw [h, cond_true] at hinv
      (apply hK
       exact ⟨l.length - (i + 1), _, by omega, Ent.weak (ids := [0]) (by simp) rfl (by simp) (by simp [objsLe, envLe, find, St.obj, AObj.renF, AV.renF, AV.renF1, Leaf.renF, LowAll, AV.Low, AV.Low1, Leaf.Low, AObj.Low, Ptr.renF, Ptr.Low] <;> try rfl) (by simp [objsLe, envLe, find, St.obj, AObj.renF, AV.renF, AV.renF1, Leaf.renF, LowAll, AV.Low, AV.Low1, Leaf.Low, AObj.Low, Ptr.renF, Ptr.Low] <;> try rfl) (by simp [objsLe, envLe, find, St.obj, AObj.renF, AV.renF, AV.renF1, Leaf.renF, LowAll, AV.Low, AV.Low1, Leaf.Low, AObj.Low, Ptr.renF, Ptr.Low]), i + 1, o, by omega, rfl, ⟨by omega, hinv⟩, rfl⟩)
    · rw [h, cond_false] at hinv
      repeat ((with_reducible show _ ∧ _); refine ⟨?_, ?_⟩; focus ((intros; repeat' apply And.intro) <;> first | (with_reducible assumption) | omega | exact trivial | exact List.nodup_nil | exact List.not_mem_nil | (with_reducible rfl) | decide | (simp_all only [Bool.not_false, Bool.not_true]; done) | (simp only [List.length_map, List.length_append, List.length_cons, List.length_nil, encI]; omega) | exact rfl | ((try clear hK); simp_all [D.flat]; done)))
      first | refine CallK_pure e64 (c64 l hl' 3 l[i].Serial) rfl ?_ | refine Or.inr ⟨by kernel_rfl, EffK_pure e64 (c64 l hl' 3 l[i].Serial) rfl ?_⟩ | refine Or.inr (EffK_pure e64 (c64 l hl' 3 l[i].Serial) rfl ?_) | refine CCallK_plain e64 (c64 l hl' 3 l[i].Serial) rfl rfl ?_ (by intro h; first | exact trivial | exact h | exact ⟨h, h⟩ | (cases h; done) | (simp; done) | (simp_all only [Bool.not_false, Bool.not_true, and_self]; done)) | refine Or.inl (CCallK_plain e64 (c64 l hl' 3 l[i].Serial) rfl rfl ?_ (by intro h; first | exact trivial | exact h | exact ⟨h, h⟩ | (cases h; done) | (simp; done) | (simp_all only [Bool.not_false, Bool.not_true, and_self]; done)))
      unfold placeOf
      rcases ixF_cases (evIs 3 l[i].Serial) l with ⟨e, hno⟩ | ⟨k, hkl, e, hp, hno⟩
      · rw [told_none hno, cond_false] at hinv
        rw [e]
        have h0 : 0 < l.length := by omega
        simp (maxSteps := 2000000) only [go_sem, ↓reduceIte, reduceCtorEq, Nat.reduceAdd, Nat.reduceMul, Nat.reduceSub, Nat.reduceLT, Nat.reduceLeDiff, Nat.reduceEqDiff, Int.reduceToNat, Int.reduceLT, Int.reduceLE, Int.reduceNeg, hdi, hw, getD_map hlt, encTEv, List.length_map, getD_map h0]
        (apply hK
         exact ⟨l.length - (i + 1), _, by omega, Ent.weak (ids := [0]) (by simp) rfl (by simp) (by simp [objsLe, envLe, find, St.obj, AObj.renF, AV.renF, AV.renF1, Leaf.renF, LowAll, AV.Low, AV.Low1, Leaf.Low, AObj.Low, Ptr.renF, Ptr.Low] <;> try rfl) (by simp [objsLe, envLe, find, St.obj, AObj.renF, AV.renF, AV.renF1, Leaf.renF, LowAll, AV.Low, AV.Low1, Leaf.Low, AObj.Low, Ptr.renF, Ptr.Low] <;> try rfl) (by simp [objsLe, envLe, find, St.obj, AObj.renF, AV.renF, AV.renF1, Leaf.renF, LowAll, AV.Low, AV.Low1, Leaf.Low, AObj.Low, Ptr.renF, Ptr.Low]), i + 1, o, by omega, rfl, ⟨by omega, hinv⟩, rfl⟩)
      · rw [told_some hkl hp hno] at hinv
        rw [e]
        have hk0 : decide (0 ≤ (k : Int)) = true := by simp
        simp (maxSteps := 2000000) only [go_sem, ↓reduceIte, reduceCtorEq, Nat.reduceAdd, Nat.reduceMul, Nat.reduceSub, Nat.reduceLT, Nat.reduceLeDiff, Nat.reduceEqDiff, Int.reduceToNat, Int.reduceLT, Int.reduceLE, Int.reduceNeg, hdi, hw, getD_map hlt, encTEv, List.length_map, hk0, getD_map hkl]
        repeat ((with_reducible show _ ∧ _); refine ⟨?_, ?_⟩; focus ((intros; repeat' apply And.intro) <;> first | (with_reducible assumption) | omega | exact trivial | exact List.nodup_nil | exact List.not_mem_nil | (with_reducible rfl) | decide | (simp_all only [Bool.not_false, Bool.not_true]; done) | (simp only [List.length_map, List.length_append, List.length_cons, List.length_nil, encI]; omega) | exact rfl | ((try clear hK); simp_all [D.flat]; done)))
        refine ⟨fun h => ?_, fun h => ?_⟩
        · rw [h, cond_true] at hinv
          repeat ((with_reducible show _ ∧ _); refine ⟨?_, ?_⟩; focus ((intros; repeat' apply And.intro) <;> first | (with_reducible assumption) | omega | exact trivial | exact List.nodup_nil | exact List.not_mem_nil | (with_reducible rfl) | decide | (simp_all only [Bool.not_false, Bool.not_true]; done) | (simp only [List.length_map, List.length_append, List.length_cons, List.length_nil, encI]; omega) | exact rfl | ((try clear hK); simp_all [D.flat]; done)))
          (apply hK
           exact ⟨l.length - (i + 1), _, by omega, Ent.weak (ids := [2]) (by simp) rfl (by simp) (by simp [objsLe, envLe, find, St.obj, AObj.renF, AV.renF, AV.renF1, Leaf.renF, LowAll, AV.Low, AV.Low1, Leaf.Low, AObj.Low, Ptr.renF, Ptr.Low] <;> try rfl) (by simp [objsLe, envLe, find, St.obj, AObj.renF, AV.renF, AV.renF1, Leaf.renF, LowAll, AV.Low, AV.Low1, Leaf.Low, AObj.Low, Ptr.renF, Ptr.Low] <;> try rfl) (by simp [objsLe, envLe, find, St.obj, AObj.renF, AV.renF, AV.renF1, Leaf.renF, LowAll, AV.Low, AV.Low1, Leaf.Low, AObj.Low, Ptr.renF, Ptr.Low]), i + 1, o ++ [l[i].Serial], by omega, rfl, ⟨by simp; omega, hinv⟩, rfl⟩)
        · rw [h, cond_false] at hinv
          (apply hK
           exact ⟨l.length - (i + 1), _, by omega, Ent.weak (ids := [0]) (by simp) rfl (by simp) (by simp [objsLe, envLe, find, St.obj, AObj.renF, AV.renF, AV.renF1, Leaf.renF, LowAll, AV.Low, AV.Low1, Leaf.Low, AObj.Low, Ptr.renF, Ptr.Low] <;> try rfl) (by simp [objsLe, envLe, find, St.obj, AObj.renF, AV.renF, AV.renF1, Leaf.renF, LowAll, AV.Low, AV.Low1, Leaf.Low, AObj.Low, Ptr.renF, Ptr.Low] <;> try rfl) (by simp [objsLe, envLe, find, St.obj, AObj.renF, AV.renF, AV.renF1, Leaf.renF, LowAll, AV.Low, AV.Low1, Leaf.Low, AObj.Low, Ptr.renF, Ptr.Low]), i + 1, o, by omega, rfl, ⟨by omega, hinv⟩, rfl⟩)
  · have hge' : l.length = i := by omega
    subst hge'
    have hdi : decide (((l.length : Nat) : Int) < ((l.length : Nat) : Int)) = false := by simp
    obtain ⟨_, hinv⟩ := hinv
    rw [List.drop_length, orderGo] at hinv
    simp (maxSteps := 2000000) only [go_sem, ↓reduceIte, reduceCtorEq, Nat.reduceAdd, Nat.reduceMul, Nat.reduceSub, Nat.reduceLT, Nat.reduceLeDiff, Nat.reduceEqDiff, Int.reduceToNat, Int.reduceLT, Int.reduceLE, Int.reduceNeg, hdi, List.length_map]
    apply hK
    rw [hinv]
    simp (maxSteps := 2000000) only [go_sem, ↓reduceIte, reduceCtorEq, Nat.reduceAdd, Nat.reduceMul, Nat.reduceSub, Nat.reduceLT, Nat.reduceLeDiff, Nat.reduceEqDiff, Int.reduceToNat, Int.reduceLT, Int.reduceLE, Int.reduceNeg]
    refine Fin.intro Try.results108 [0] (by simp (maxSteps := 2000000) only [go_sem, ↓reduceIte, reduceCtorEq, Nat.reduceAdd, Nat.reduceMul, Nat.reduceSub, Nat.reduceLT, Nat.reduceLeDiff, Nat.reduceEqDiff, Int.reduceToNat, Int.reduceLT, Int.reduceLE, Int.reduceNeg, resA]; rfl) ?_ ?_ (by simp) rfl (by simp) ?_ <;> try trivial
    all_goals simp [objsLe, envLe, find, St.obj, AObj.renF, AV.renF, AV.renF1, Leaf.renF, LowAll, AV.Low, AV.Low1, Leaf.Low, AObj.Low, Ptr.renF, Ptr.Low]
theorem c109 (l : List TEv) (hl : l.length ≤ 16777216) : Ctr Try.prog 109 [.one (.dat (.sl 6 (l.map encTEv)))] [] (.one (.own 0)) [.vec 1 true ((order l).map encI)] := by
  have hl' : l.length ≤ maxLen := Nat.le_trans hl (by decide)
  refine Ctr.body mixed Try.func109 rfl (by kernel_rfl) (Nat.le_of_ble_eq_true rfl) (by simp [AV.Clean, AV.Clean1, Leaf.Clean, D.flat]) (by simp [AObj.Sep]) (by simp [AV.Low, AV.Low1, Leaf.Low]) ?_
  simp (maxSteps := 2000000) only [go_sem, ↓reduceIte, reduceCtorEq, Nat.reduceAdd, Nat.reduceMul, Nat.reduceSub, Nat.reduceLT, Nat.reduceLeDiff, Nat.reduceEqDiff, Int.reduceToNat, Int.reduceLT, Int.reduceLE, Int.reduceNeg]
  repeat ((with_reducible show _ ∧ _); refine ⟨?_, ?_⟩; focus ((intros; repeat' apply And.intro) <;> first | (with_reducible assumption) | omega | exact trivial | exact List.nodup_nil | exact List.not_mem_nil | (with_reducible rfl) | decide | (simp_all only [Bool.not_false, Bool.not_true]; done) | (simp only [List.length_map, List.length_append, List.length_cons, List.length_nil, encI]; omega) | exact rfl | ((try clear hK); simp_all [D.flat]; done)))
  refine LoopK_intro (fun zn zs => ∃ (i : Nat) (o : List Int), i ≤ l.length ∧ zn = l.length - i ∧ (o.length ≤ i ∧ order l = orderGo l o (l.drop i)) ∧ zs = mkSt [(10, .one (.dat (.int .i64 i))), (9, .one (.dat (.int .i64 (l.length)))), (8, .one (.dat (.sl 6 (l.map encTEv)))), (3, .one (.own 0)), (0, .one (.dat (.sl 6 (l.map encTEv))))] [.vec 1 true (o.map encI)]) (l.length) _
    (Ent.weak (ids := [0]) (by simp) rfl (by simp) (by simp [objsLe, envLe, find, St.obj, AObj.renF, AV.renF, AV.renF1, Leaf.renF, LowAll, AV.Low, AV.Low1, Leaf.Low, AObj.Low, Ptr.renF, Ptr.Low]) (by simp [objsLe, envLe, find, St.obj, AObj.renF, AV.renF, AV.renF1, Leaf.renF, LowAll, AV.Low, AV.Low1, Leaf.Low, AObj.Low, Ptr.renF, Ptr.Low]) (by simp [objsLe, envLe, find, St.obj, AObj.renF, AV.renF, AV.renF1, Leaf.renF, LowAll, AV.Low, AV.Low1, Leaf.Low, AObj.Low, Ptr.renF, Ptr.Low])) ⟨0, [], by omega, by omega, ⟨by simp, rfl⟩, rfl⟩ ?_
  rintro zn zs ⟨i, o, hi, rfl, hinv, rfl⟩ K hK
  rcases Nat.lt_or_ge i (l.length) with hlt | hge
  · have hdi : decide ((i : Int) < ((l.length : Nat) : Int)) = true := by simpa using hlt
    have hw := wrap_succ hlt hl'
    obtain ⟨ho, hinv⟩ := hinv
    have hmx : maxLen = 9223372036854775807 := rfl
    rw [List.drop_eq_getElem_cons hlt, orderGo] at hinv
    simp (maxSteps := 2000000) only [go_sem, ↓reduceIte, reduceCtorEq, Nat.reduceAdd, Nat.reduceMul, Nat.reduceSub, Nat.reduceLT, Nat.reduceLeDiff, Nat.reduceEqDiff, Int.reduceToNat, Int.reduceLT, Int.reduceLE, Int.reduceNeg, hdi, hw, getD_map hlt, encTEv, List.length_map]
    repeat ((with_reducible show _ ∧ _); refine ⟨?_, ?_⟩; focus ((intros; repeat' apply And.intro) <;> first | (with_reducible assumption) | omega | exact trivial | exact List.nodup_nil | exact List.not_mem_nil | (with_reducible rfl) | decide | (simp_all only [Bool.not_false, Bool.not_true]; done) | (simp only [List.length_map, List.length_append, List.length_cons, List.length_nil, encI]; omega) | exact rfl | ((try clear hK); simp_all [D.flat]; done)))
    first | refine CallK_pure e120 (c120 o (by omega) l[i].Serial) rfl ?_ | refine Or.inr ⟨by kernel_rfl, EffK_pure e120 (c120 o (by omega) l[i].Serial) rfl ?_⟩ | refine Or.inr (EffK_pure e120 (c120 o (by omega) l[i].Serial) rfl ?_) | refine CCallK_plain e120 (c120 o (by omega) l[i].Serial) rfl rfl ?_ (by intro h; first | exact trivial | exact h | exact ⟨h, h⟩ | (cases h; done) | (simp; done) | (simp_all only [Bool.not_false, Bool.not_true, and_self]; done)) | refine Or.inl (CCallK_plain e120 (c120 o (by omega) l[i].Serial) rfl rfl ?_ (by intro h; first | exact trivial | exact h | exact ⟨h, h⟩ | (cases h; done) | (simp; done) | (simp_all only [Bool.not_false, Bool.not_true, and_self]; done)))
    simp (maxSteps := 2000000) only [go_sem, ↓reduceIte, reduceCtorEq, Nat.reduceAdd, Nat.reduceMul, Nat.reduceSub, Nat.reduceLT, Nat.reduceLeDiff, Nat.reduceEqDiff, Int.reduceToNat, Int.reduceLT, Int.reduceLE, Int.reduceNeg, hdi, hw, getD_map hlt, encTEv, List.length_map]
    repeat ((with_reducible show _ ∧ _); refine ⟨?_, ?_⟩; focus ((intros; repeat' apply And.intro) <;> first | (with_reducible assumption) | omega | exact trivial | exact List.nodup_nil | exact List.not_mem_nil | (with_reducible rfl) | decide | (simp_all only [Bool.not_false, Bool.not_true]; done) | (simp only [List.length_map, List.length_append, List.length_cons, List.length_nil, encI]; omega) | exact rfl | ((try clear hK); simp_all [D.flat]; done)))
    refine ⟨fun h => ?_, fun h => ?_⟩
    · rw [h, cond_true] at hinv
      (apply hK
       exact ⟨l.length - (i + 1), _, by omega, Ent.weak (ids := [0]) (by simp) rfl (by simp) (by simp [objsLe, envLe, find, St.obj, AObj.renF, AV.renF, AV.renF1, Leaf.renF, LowAll, AV.Low, AV.Low1, Leaf.Low, AObj.Low, Ptr.renF, Ptr.Low] <;> try rfl) (by simp [objsLe, envLe, find, St.obj, AObj.renF, AV.renF, AV.renF1, Leaf.renF, LowAll, AV.Low, AV.Low1, Leaf.Low, AObj.Low, Ptr.renF, Ptr.Low] <;> try rfl) (by simp [objsLe, envLe, find, St.obj, AObj.renF, AV.renF, AV.renF1, Leaf.renF, LowAll, AV.Low, AV.Low1, Leaf.Low, AObj.Low, Ptr.renF, Ptr.Low]), i + 1, o, by omega, rfl, ⟨by omega, hinv⟩, rfl⟩)
    · rw [h, cond_false] at hinv
      first | refine CallK_pure e65 (c65 l hl' 3 l[i].Serial) rfl ?_ | refine Or.inr ⟨by kernel_rfl, EffK_pure e65 (c65 l hl' 3 l[i].Serial) rfl ?_⟩ | refine Or.inr (EffK_pure e65 (c65 l hl' 3 l[i].Serial) rfl ?_) | refine CCallK_plain e65 (c65 l hl' 3 l[i].Serial) rfl rfl ?_ (by intro h; first | exact trivial | exact h | exact ⟨h, h⟩ | (cases h; done) | (simp; done) | (simp_all only [Bool.not_false, Bool.not_true, and_self]; done)) | refine Or.inl (CCallK_plain e65 (c65 l hl' 3 l[i].Serial) rfl rfl ?_ (by intro h; first | exact trivial | exact h | exact ⟨h, h⟩ | (cases h; done) | (simp; done) | (simp_all only [Bool.not_false, Bool.not_true, and_self]; done)))
      unfold placeOf
      rcases ixF_cases (evIs 3 l[i].Serial) l with ⟨e, hno⟩ | ⟨k, hkl, e, hp, hno⟩
      · rw [told_none hno, cond_false] at hinv
        rw [e]
        have h0 : 0 < l.length := by omega
        simp (maxSteps := 2000000) only [go_sem, ↓reduceIte, reduceCtorEq, Nat.reduceAdd, Nat.reduceMul, Nat.reduceSub, Nat.reduceLT, Nat.reduceLeDiff, Nat.reduceEqDiff, Int.reduceToNat, Int.reduceLT, Int.reduceLE, Int.reduceNeg, hdi, hw, getD_map hlt, encTEv, List.length_map, getD_map h0]
        repeat ((with_reducible show _ ∧ _); refine ⟨?_, ?_⟩; focus ((intros; repeat' apply And.intro) <;> first | (with_reducible assumption) | omega | exact trivial | exact List.nodup_nil | exact List.not_mem_nil | (with_reducible rfl) | decide | (simp_all only [Bool.not_false, Bool.not_true]; done) | (simp only [List.length_map, List.length_append, List.length_cons, List.length_nil, encI]; omega) | exact rfl | ((try clear hK); simp_all [D.flat]; done)))
        (apply hK
         exact ⟨l.length - (i + 1), _, by omega, Ent.weak (ids := [0]) (by simp) rfl (by simp) (by simp [objsLe, envLe, find, St.obj, AObj.renF, AV.renF, AV.renF1, Leaf.renF, LowAll, AV.Low, AV.Low1, Leaf.Low, AObj.Low, Ptr.renF, Ptr.Low] <;> try rfl) (by simp [objsLe, envLe, find, St.obj, AObj.renF, AV.renF, AV.renF1, Leaf.renF, LowAll, AV.Low, AV.Low1, Leaf.Low, AObj.Low, Ptr.renF, Ptr.Low] <;> try rfl) (by simp [objsLe, envLe, find, St.obj, AObj.renF, AV.renF, AV.renF1, Leaf.renF, LowAll, AV.Low, AV.Low1, Leaf.Low, AObj.Low, Ptr.renF, Ptr.Low]), i + 1, o, by omega, rfl, ⟨by omega, hinv⟩, rfl⟩)
      · rw [told_some hkl hp hno] at hinv
        rw [e]
        have hk0 : decide (0 ≤ (k : Int)) = true := by simp
        simp (maxSteps := 2000000) only [go_sem, ↓reduceIte, reduceCtorEq, Nat.reduceAdd, Nat.reduceMul, Nat.reduceSub, Nat.reduceLT, Nat.reduceLeDiff, Nat.reduceEqDiff, Int.reduceToNat, Int.reduceLT, Int.reduceLE, Int.reduceNeg, hdi, hw, getD_map hlt, encTEv, List.length_map, hk0, getD_map hkl]
        repeat ((with_reducible show _ ∧ _); refine ⟨?_, ?_⟩; focus ((intros; repeat' apply And.intro) <;> first | (with_reducible assumption) | omega | exact trivial | exact List.nodup_nil | exact List.not_mem_nil | (with_reducible rfl) | decide | (simp_all only [Bool.not_false, Bool.not_true]; done) | (simp only [List.length_map, List.length_append, List.length_cons, List.length_nil, encI]; omega) | exact rfl | ((try clear hK); simp_all [D.flat]; done)))
        refine ⟨fun h => ?_, fun h => ?_⟩
        · rw [h, cond_true] at hinv
          repeat ((with_reducible show _ ∧ _); refine ⟨?_, ?_⟩; focus ((intros; repeat' apply And.intro) <;> first | (with_reducible assumption) | omega | exact trivial | exact List.nodup_nil | exact List.not_mem_nil | (with_reducible rfl) | decide | (simp_all only [Bool.not_false, Bool.not_true]; done) | (simp only [List.length_map, List.length_append, List.length_cons, List.length_nil, encI]; omega) | exact rfl | ((try clear hK); simp_all [D.flat]; done)))
          (apply hK
           exact ⟨l.length - (i + 1), _, by omega, Ent.weak (ids := [3]) (by simp) rfl (by simp) (by simp [objsLe, envLe, find, St.obj, AObj.renF, AV.renF, AV.renF1, Leaf.renF, LowAll, AV.Low, AV.Low1, Leaf.Low, AObj.Low, Ptr.renF, Ptr.Low] <;> try rfl) (by simp [objsLe, envLe, find, St.obj, AObj.renF, AV.renF, AV.renF1, Leaf.renF, LowAll, AV.Low, AV.Low1, Leaf.Low, AObj.Low, Ptr.renF, Ptr.Low] <;> try rfl) (by simp [objsLe, envLe, find, St.obj, AObj.renF, AV.renF, AV.renF1, Leaf.renF, LowAll, AV.Low, AV.Low1, Leaf.Low, AObj.Low, Ptr.renF, Ptr.Low]), i + 1, o ++ [l[i].Serial], by omega, rfl, ⟨by simp; omega, hinv⟩, rfl⟩)
        · rw [h, cond_false] at hinv
          (apply hK
           exact ⟨l.length - (i + 1), _, by omega, Ent.weak (ids := [0]) (by simp) rfl (by simp) (by simp [objsLe, envLe, find, St.obj, AObj.renF, AV.renF, AV.renF1, Leaf.renF, LowAll, AV.Low, AV.Low1, Leaf.Low, AObj.Low, Ptr.renF, Ptr.Low] <;> try rfl) (by simp [objsLe, envLe, find, St.obj, AObj.renF, AV.renF, AV.renF1, Leaf.renF, LowAll, AV.Low, AV.Low1, Leaf.Low, AObj.Low, Ptr.renF, Ptr.Low] <;> try rfl) (by simp [objsLe, envLe, find, St.obj, AObj.renF, AV.renF, AV.renF1, Leaf.renF, LowAll, AV.Low, AV.Low1, Leaf.Low, AObj.Low, Ptr.renF, Ptr.Low]), i + 1, o, by omega, rfl, ⟨by omega, hinv⟩, rfl⟩)
  · have hge' : l.length = i := by omega
    subst hge'
    have hdi : decide (((l.length : Nat) : Int) < ((l.length : Nat) : Int)) = false := by simp
    obtain ⟨_, hinv⟩ := hinv
    rw [List.drop_length, orderGo] at hinv
    simp (maxSteps := 2000000) only [go_sem, ↓reduceIte, reduceCtorEq, Nat.reduceAdd, Nat.reduceMul, Nat.reduceSub, Nat.reduceLT, Nat.reduceLeDiff, Nat.reduceEqDiff, Int.reduceToNat, Int.reduceLT, Int.reduceLE, Int.reduceNeg, hdi, List.length_map]
    apply hK
    rw [hinv]
    simp (maxSteps := 2000000) only [go_sem, ↓reduceIte, reduceCtorEq, Nat.reduceAdd, Nat.reduceMul, Nat.reduceSub, Nat.reduceLT, Nat.reduceLeDiff, Nat.reduceEqDiff, Int.reduceToNat, Int.reduceLT, Int.reduceLE, Int.reduceNeg]
    refine Fin.intro Try.results109 [0] (by simp (maxSteps := 2000000) only [go_sem, ↓reduceIte, reduceCtorEq, Nat.reduceAdd, Nat.reduceMul, Nat.reduceSub, Nat.reduceLT, Nat.reduceLeDiff, Nat.reduceEqDiff, Int.reduceToNat, Int.reduceLT, Int.reduceLE, Int.reduceNeg, resA]; rfl) ?_ ?_ (by simp) rfl (by simp) ?_ <;> try trivial
    all_goals simp [objsLe, envLe, find, St.obj, AObj.renF, AV.renF, AV.renF1, Leaf.renF, LowAll, AV.Low, AV.Low1, Leaf.Low, AObj.Low, Ptr.renF, Ptr.Low]
theorem any_take_true {α : Type} {p : α → Bool} {l : List α} {i k : Nat} (hk : k < i) (hl : k < l.length) (h : p l[k] = true) : (l.take i).any p = true :=
  List.any_eq_true.2 ⟨l[k], List.mem_take_iff_getElem.2 ⟨k, by omega, rfl⟩, h⟩
theorem any_take_false {α : Type} {p : α → Bool} {l : List α} {i : Nat} (h : ∀ j (hj : j < l.length), j < i → p l[j] = false) : (l.take i).any p = false := by
  rw [List.any_eq_false]
  intro x hx
  obtain ⟨j, hj, rfl⟩ := List.mem_take_iff_getElem.1 hx
  simp [h j (by omega) (by omega)]
def strictGo (L : List TEv) (pre : List Int) : List Int → Bool
  | [] => true
  | x :: r => bif pre.any (fun y => inTime L x y) then false else strictGo L (pre ++ [x]) r
def strict (L : List TEv) : Bool := strictGo L [] (order L)
theorem c111 (y : Int) (L : List TEv) (hl : L.length ≤ maxLen) (x : Int) : Ctr Try.prog 111 [.one (.dat (.int .i64 y)), .one (.ptr (.ro 1 [[.sl 6 (L.map encTEv)]] 0 0)), .one (.ptr (.ro 1 [[.int .i64 x]] 0 0))] [] (.one (.dat (.bool (inTime L x y)))) [] := by
  refine Ctr.body mixed Try.func111 rfl (by kernel_rfl) (Nat.le_of_ble_eq_true rfl) (by simp [AV.Clean, AV.Clean1, Leaf.Clean, D.flat]) (by simp [AObj.Sep]) (by simp [AV.Low, AV.Low1, Leaf.Low]) ?_
  simp (maxSteps := 2000000) only [go_sem, ↓reduceIte, reduceCtorEq, Nat.reduceAdd, Nat.reduceMul, Nat.reduceSub, Nat.reduceLT, Nat.reduceLeDiff, Nat.reduceEqDiff, Int.reduceToNat, Int.reduceLT, Int.reduceLE, Int.reduceNeg]
  repeat ((with_reducible show _ ∧ _); refine ⟨?_, ?_⟩; focus ((intros; repeat' apply And.intro) <;> first | (with_reducible assumption) | omega | exact trivial | exact List.nodup_nil | exact List.not_mem_nil | (with_reducible rfl) | decide | (simp_all only [Bool.not_false, Bool.not_true]; done) | (simp only [List.length_map, List.length_append, List.length_cons, List.length_nil, encI]; omega) | exact rfl | ((try clear hK); simp_all [D.flat]; done)))
  first | refine CallK_pure e67 (c67 L hl x y) rfl ?_ | refine Or.inr ⟨by kernel_rfl, EffK_pure e67 (c67 L hl x y) rfl ?_⟩ | refine Or.inr (EffK_pure e67 (c67 L hl x y) rfl ?_) | refine CCallK_plain e67 (c67 L hl x y) rfl rfl ?_ (by intro h; first | exact trivial | exact h | exact ⟨h, h⟩ | (cases h; done) | (simp; done) | (simp_all only [Bool.not_false, Bool.not_true, and_self]; done)) | refine Or.inl (CCallK_plain e67 (c67 L hl x y) rfl rfl ?_ (by intro h; first | exact trivial | exact h | exact ⟨h, h⟩ | (cases h; done) | (simp; done) | (simp_all only [Bool.not_false, Bool.not_true, and_self]; done)))
  simp (maxSteps := 2000000) only [go_sem, ↓reduceIte, reduceCtorEq, Nat.reduceAdd, Nat.reduceMul, Nat.reduceSub, Nat.reduceLT, Nat.reduceLeDiff, Nat.reduceEqDiff, Int.reduceToNat, Int.reduceLT, Int.reduceLE, Int.reduceNeg]
  refine Fin.intro Try.results111 [] (by simp (maxSteps := 2000000) only [go_sem, ↓reduceIte, reduceCtorEq, Nat.reduceAdd, Nat.reduceMul, Nat.reduceSub, Nat.reduceLT, Nat.reduceLeDiff, Nat.reduceEqDiff, Int.reduceToNat, Int.reduceLT, Int.reduceLE, Int.reduceNeg, resA]; rfl) ?_ ?_ (by simp) rfl (by simp) ?_ <;> try trivial
theorem c69 (l : List TEv) (hl : l.length ≤ 16777216) : Ctr Try.prog 69 [.one (.dat (.sl 6 (l.map encTEv)))] [] (.one (.dat (.bool (strict l)))) [] := by
  have hl' : l.length ≤ maxLen := Nat.le_trans hl (by decide)
  have ho : (order l).length ≤ maxLen := Nat.le_trans (order_len l) hl'
  refine Ctr.body mixed Try.func69 rfl (by kernel_rfl) (Nat.le_of_ble_eq_true rfl) (by simp [AV.Clean, AV.Clean1, Leaf.Clean, D.flat]) (by simp [AObj.Sep]) (by simp [AV.Low, AV.Low1, Leaf.Low]) ?_
  simp (maxSteps := 2000000) only [go_sem, ↓reduceIte, reduceCtorEq, Nat.reduceAdd, Nat.reduceMul, Nat.reduceSub, Nat.reduceLT, Nat.reduceLeDiff, Nat.reduceEqDiff, Int.reduceToNat, Int.reduceLT, Int.reduceLE, Int.reduceNeg]
  first | refine CallK_pure e109 (c109 l hl) rfl ?_ | refine Or.inr ⟨by kernel_rfl, EffK_pure e109 (c109 l hl) rfl ?_⟩ | refine Or.inr (EffK_pure e109 (c109 l hl) rfl ?_) | refine CCallK_plain e109 (c109 l hl) rfl rfl ?_ (by intro h; first | exact trivial | exact h | exact ⟨h, h⟩ | (cases h; done) | (simp; done) | (simp_all only [Bool.not_false, Bool.not_true, and_self]; done)) | refine Or.inl (CCallK_plain e109 (c109 l hl) rfl rfl ?_ (by intro h; first | exact trivial | exact h | exact ⟨h, h⟩ | (cases h; done) | (simp; done) | (simp_all only [Bool.not_false, Bool.not_true, and_self]; done)))
  simp (maxSteps := 2000000) only [go_sem, ↓reduceIte, reduceCtorEq, Nat.reduceAdd, Nat.reduceMul, Nat.reduceSub, Nat.reduceLT, Nat.reduceLeDiff, Nat.reduceEqDiff, Int.reduceToNat, Int.reduceLT, Int.reduceLE, Int.reduceNeg, List.length_map]
  refine LoopK_intro (fun zn zs => ∃ i : Nat, i ≤ (order l).length ∧ zn = (order l).length - i ∧ (strict l = strictGo l ((order l).take i) ((order l).drop i)) ∧ zs = mkSt [(10, .one (.dat (.int .i64 i))), (9, .one (.dat (.int .i64 ((order l).length)))), (8, .one (.own 1)), (3, .one (.own 1)), (1, .one (.ptr (.own 0 0 0))), (0, .one (.dat (.sl 6 (l.map encTEv))))] [.box [.dat (.sl 6 (l.map encTEv))], .vec 1 true ((order l).map encI)]) ((order l).length) _
    (Ent.weak (ids := [0, 1]) (by simp) rfl (by simp) (by simp [objsLe, envLe, find, St.obj, AObj.renF, AV.renF, AV.renF1, Leaf.renF, LowAll, AV.Low, AV.Low1, Leaf.Low, AObj.Low, Ptr.renF, Ptr.Low]) (by simp [objsLe, envLe, find, St.obj, AObj.renF, AV.renF, AV.renF1, Leaf.renF, LowAll, AV.Low, AV.Low1, Leaf.Low, AObj.Low, Ptr.renF, Ptr.Low]) (by simp [objsLe, envLe, find, St.obj, AObj.renF, AV.renF, AV.renF1, Leaf.renF, LowAll, AV.Low, AV.Low1, Leaf.Low, AObj.Low, Ptr.renF, Ptr.Low])) ⟨0, by omega, by omega, rfl, rfl⟩ ?_
  rintro zn zs ⟨i, hi, rfl, hinv, rfl⟩ K hK
  rcases Nat.lt_or_ge i ((order l).length) with hlt | hge
  · have hdi : decide ((i : Int) < (((order l).length : Nat) : Int)) = true := by simpa using hlt
    have hw := wrap_succ hlt ho
    rw [List.drop_eq_getElem_cons hlt, strictGo] at hinv
    simp (maxSteps := 2000000) only [go_sem, ↓reduceIte, reduceCtorEq, Nat.reduceAdd, Nat.reduceMul, Nat.reduceSub, Nat.reduceLT, Nat.reduceLeDiff, Nat.reduceEqDiff, Int.reduceToNat, Int.reduceLT, Int.reduceLE, Int.reduceNeg, hdi, hw, getD_map hlt, encI, List.length_map]
    repeat ((with_reducible show _ ∧ _); refine ⟨?_, ?_⟩; focus ((intros; repeat' apply And.intro) <;> first | (with_reducible assumption) | omega | exact trivial | exact List.nodup_nil | exact List.not_mem_nil | (with_reducible rfl) | decide | (simp_all only [Bool.not_false, Bool.not_true]; done) | (simp only [List.length_map, List.length_append, List.length_cons, List.length_nil, encI]; omega) | exact rfl | ((try clear hK); simp_all [D.flat]; done)))
    have hcf := c110_k2 ((order l).take i) (by simp; omega) e111 (fun y _ => c111 y l hl' (order l)[i])
    rw [List.map_take] at hcf
    refine CallK_pure e110 hcf rfl ?_
    simp (maxSteps := 2000000) only [go_sem, ↓reduceIte, reduceCtorEq, Nat.reduceAdd, Nat.reduceMul, Nat.reduceSub, Nat.reduceLT, Nat.reduceLeDiff, Nat.reduceEqDiff, Int.reduceToNat, Int.reduceLT, Int.reduceLE, Int.reduceNeg, hdi, hw, getD_map hlt, encI, List.length_map]
    refine ⟨fun h => ?_, fun h => ?_⟩
    · rw [h, cond_true] at hinv
      apply hK
      simp (maxSteps := 2000000) only [go_sem, ↓reduceIte, reduceCtorEq, Nat.reduceAdd, Nat.reduceMul, Nat.reduceSub, Nat.reduceLT, Nat.reduceLeDiff, Nat.reduceEqDiff, Int.reduceToNat, Int.reduceLT, Int.reduceLE, Int.reduceNeg, hdi, hw, getD_map hlt, encI, List.length_map]
      refine Fin.intro Try.results69 [] (by simp (maxSteps := 2000000) only [go_sem, ↓reduceIte, reduceCtorEq, Nat.reduceAdd, Nat.reduceMul, Nat.reduceSub, Nat.reduceLT, Nat.reduceLeDiff, Nat.reduceEqDiff, Int.reduceToNat, Int.reduceLT, Int.reduceLE, Int.reduceNeg, resA]; rfl) ?_ ?_ (by simp) rfl (by simp) ?_ <;> try trivial
      simp only [packA, AV.renF, AV.renF1, Leaf.renF, AV.one.injEq, Leaf.dat.injEq, D.bool.injEq, D.int.injEq, D.str.injEq, AV.agg.injEq, AV.tup.injEq, List.cons.injEq, and_true, true_and, List.map_cons, List.map_nil]
      exact hinv.symm
    · rw [h, cond_false, ← List.take_succ_eq_append_getElem hlt] at hinv
      (apply hK
       exact ⟨(order l).length - (i + 1), _, by omega, Ent.weak (ids := [0, 1]) (by simp) rfl (by simp) (by simp [objsLe, envLe, find, St.obj, AObj.renF, AV.renF, AV.renF1, Leaf.renF, LowAll, AV.Low, AV.Low1, Leaf.Low, AObj.Low, Ptr.renF, Ptr.Low] <;> try rfl) (by simp [objsLe, envLe, find, St.obj, AObj.renF, AV.renF, AV.renF1, Leaf.renF, LowAll, AV.Low, AV.Low1, Leaf.Low, AObj.Low, Ptr.renF, Ptr.Low] <;> try rfl) (by simp [objsLe, envLe, find, St.obj, AObj.renF, AV.renF, AV.renF1, Leaf.renF, LowAll, AV.Low, AV.Low1, Leaf.Low, AObj.Low, Ptr.renF, Ptr.Low]), i + 1, by omega, rfl, hinv, rfl⟩)
  · have hge' : (order l).length = i := by omega
    subst hge'
    have hdi : decide ((((order l).length : Nat) : Int) < (((order l).length : Nat) : Int)) = false := by simp
    rw [List.drop_length, strictGo] at hinv
    simp (maxSteps := 2000000) only [go_sem, ↓reduceIte, reduceCtorEq, Nat.reduceAdd, Nat.reduceMul, Nat.reduceSub, Nat.reduceLT, Nat.reduceLeDiff, Nat.reduceEqDiff, Int.reduceToNat, Int.reduceLT, Int.reduceLE, Int.reduceNeg, hdi, List.length_map]
    apply hK
    simp (maxSteps := 2000000) only [go_sem, ↓reduceIte, reduceCtorEq, Nat.reduceAdd, Nat.reduceMul, Nat.reduceSub, Nat.reduceLT, Nat.reduceLeDiff, Nat.reduceEqDiff, Int.reduceToNat, Int.reduceLT, Int.reduceLE, Int.reduceNeg]
    refine Fin.intro Try.results69 [] (by simp (maxSteps := 2000000) only [go_sem, ↓reduceIte, reduceCtorEq, Nat.reduceAdd, Nat.reduceMul, Nat.reduceSub, Nat.reduceLT, Nat.reduceLeDiff, Nat.reduceEqDiff, Int.reduceToNat, Int.reduceLT, Int.reduceLE, Int.reduceNeg, resA]; rfl) ?_ ?_ (by simp) rfl (by simp) ?_ <;> try trivial
    simp only [packA, AV.renF, AV.renF1, Leaf.renF, AV.one.injEq, Leaf.dat.injEq, D.bool.injEq, D.int.injEq, D.str.injEq, AV.agg.injEq, AV.tup.injEq, List.cons.injEq, and_true, true_and, List.map_cons, List.map_nil]
    exact hinv.symm
theorem c68 (l : List TEv) (hl : l.length ≤ 16777216) : Ctr Try.prog 68 [.one (.dat (.sl 6 (l.map encTEv)))] [] (.one (.dat (.bool (strict l)))) [] := by
  have hl' : l.length ≤ maxLen := Nat.le_trans hl (by decide)
  have ho : (order l).length ≤ maxLen := Nat.le_trans (order_len l) hl'
  refine Ctr.body mixed Try.func68 rfl (by kernel_rfl) (Nat.le_of_ble_eq_true rfl) (by simp [AV.Clean, AV.Clean1, Leaf.Clean, D.flat]) (by simp [AObj.Sep]) (by simp [AV.Low, AV.Low1, Leaf.Low]) ?_
  simp (maxSteps := 2000000) only [go_sem, ↓reduceIte, reduceCtorEq, Nat.reduceAdd, Nat.reduceMul, Nat.reduceSub, Nat.reduceLT, Nat.reduceLeDiff, Nat.reduceEqDiff, Int.reduceToNat, Int.reduceLT, Int.reduceLE, Int.reduceNeg]
  first | refine CallK_pure e108 (c108 l hl) rfl ?_ | refine Or.inr ⟨by kernel_rfl, EffK_pure e108 (c108 l hl) rfl ?_⟩ | refine Or.inr (EffK_pure e108 (c108 l hl) rfl ?_) | refine CCallK_plain e108 (c108 l hl) rfl rfl ?_ (by intro h; first | exact trivial | exact h | exact ⟨h, h⟩ | (cases h; done) | (simp; done) | (simp_all only [Bool.not_false, Bool.not_true, and_self]; done)) | refine Or.inl (CCallK_plain e108 (c108 l hl) rfl rfl ?_ (by intro h; first | exact trivial | exact h | exact ⟨h, h⟩ | (cases h; done) | (simp; done) | (simp_all only [Bool.not_false, Bool.not_true, and_self]; done)))
  simp (maxSteps := 2000000) only [go_sem, ↓reduceIte, reduceCtorEq, Nat.reduceAdd, Nat.reduceMul, Nat.reduceSub, Nat.reduceLT, Nat.reduceLeDiff, Nat.reduceEqDiff, Int.reduceToNat, Int.reduceLT, Int.reduceLE, Int.reduceNeg]
  refine LoopK_intro (fun zn zs => ∃ i : Nat, i ≤ (order l).length ∧ zn = (order l).length - i ∧ (strict l = strictGo l ((order l).take i) ((order l).drop i)) ∧ zs = mkSt [(4, .one (.dat (.int .i64 i))), (3, .one (.own 0)), (0, .one (.dat (.sl 6 (l.map encTEv))))] [.vec 1 true ((order l).map encI)]) ((order l).length) _
    (Ent.weak (ids := [0]) (by simp) rfl (by simp) (by simp [objsLe, envLe, find, St.obj, AObj.renF, AV.renF, AV.renF1, Leaf.renF, LowAll, AV.Low, AV.Low1, Leaf.Low, AObj.Low, Ptr.renF, Ptr.Low]) (by simp [objsLe, envLe, find, St.obj, AObj.renF, AV.renF, AV.renF1, Leaf.renF, LowAll, AV.Low, AV.Low1, Leaf.Low, AObj.Low, Ptr.renF, Ptr.Low]) (by simp [objsLe, envLe, find, St.obj, AObj.renF, AV.renF, AV.renF1, Leaf.renF, LowAll, AV.Low, AV.Low1, Leaf.Low, AObj.Low, Ptr.renF, Ptr.Low])) ⟨0, by omega, by omega, rfl, rfl⟩ ?_
  rintro zn zs ⟨i, hi, rfl, hinv, rfl⟩ K hK
  rcases Nat.lt_or_ge i ((order l).length) with hlt | hge
  · have hdi : decide ((i : Int) < (((order l).length : Nat) : Int)) = true := by simpa using hlt
    have hw := wrap_succ hlt ho
    rw [List.drop_eq_getElem_cons hlt, strictGo] at hinv
    simp (maxSteps := 2000000) only [go_sem, ↓reduceIte, reduceCtorEq, Nat.reduceAdd, Nat.reduceMul, Nat.reduceSub, Nat.reduceLT, Nat.reduceLeDiff, Nat.reduceEqDiff, Int.reduceToNat, Int.reduceLT, Int.reduceLE, Int.reduceNeg, hdi, hw, getD_map hlt, encI, List.length_map]
    refine LoopK_intro (fun zn zs => ∃ k : Nat, k ≤ i ∧ zn = i - k ∧ (∀ j (hj : j < (order l).length), j < k → inTime l (order l)[i] (order l)[j] = false) ∧ zs = mkSt [(5, .one (.dat (.int .i64 k))), (3, .one (.own 0)), (4, .one (.dat (.int .i64 i))), (0, .one (.dat (.sl 6 (l.map encTEv))))] [.vec 1 true ((order l).map encI)]) (i) _
      (Ent.weak (ids := [0]) (by simp) rfl (by simp) (by simp [objsLe, envLe, find, St.obj, AObj.renF, AV.renF, AV.renF1, Leaf.renF, LowAll, AV.Low, AV.Low1, Leaf.Low, AObj.Low, Ptr.renF, Ptr.Low]) (by simp [objsLe, envLe, find, St.obj, AObj.renF, AV.renF, AV.renF1, Leaf.renF, LowAll, AV.Low, AV.Low1, Leaf.Low, AObj.Low, Ptr.renF, Ptr.Low]) (by simp [objsLe, envLe, find, St.obj, AObj.renF, AV.renF, AV.renF1, Leaf.renF, LowAll, AV.Low, AV.Low1, Leaf.Low, AObj.Low, Ptr.renF, Ptr.Low])) ⟨0, by omega, by omega, by simp, rfl⟩ ?_
    rintro zn zs ⟨k, hi2, rfl, hinv2, rfl⟩ K2 hK2
    rcases Nat.lt_or_ge k (i) with hlt2 | hge2
    · have hdi2 : decide ((k : Int) < ((i : Nat) : Int)) = true := by simpa using hlt2
      have hw2 := wrap_succ hlt2 (Nat.le_trans hi ho)
      have hkl : k < (order l).length := by omega
      simp (maxSteps := 2000000) only [go_sem, ↓reduceIte, reduceCtorEq, Nat.reduceAdd, Nat.reduceMul, Nat.reduceSub, Nat.reduceLT, Nat.reduceLeDiff, Nat.reduceEqDiff, Int.reduceToNat, Int.reduceLT, Int.reduceLE, Int.reduceNeg, hdi2, hw2, getD_map hlt, getD_map hkl, encI, List.length_map]
      repeat ((with_reducible show _ ∧ _); refine ⟨?_, ?_⟩; focus ((intros; repeat' apply And.intro) <;> first | (with_reducible assumption) | omega | exact trivial | exact List.nodup_nil | exact List.not_mem_nil | (with_reducible rfl) | decide | (simp_all only [Bool.not_false, Bool.not_true]; done) | (simp only [List.length_map, List.length_append, List.length_cons, List.length_nil, encI]; omega) | exact rfl | ((try clear hK); simp_all [D.flat]; done)))
      first | refine CallK_pure e66 (c66 l hl' (order l)[i] (order l)[k]) rfl ?_ | refine Or.inr ⟨by kernel_rfl, EffK_pure e66 (c66 l hl' (order l)[i] (order l)[k]) rfl ?_⟩ | refine Or.inr (EffK_pure e66 (c66 l hl' (order l)[i] (order l)[k]) rfl ?_) | refine CCallK_plain e66 (c66 l hl' (order l)[i] (order l)[k]) rfl rfl ?_ (by intro h; first | exact trivial | exact h | exact ⟨h, h⟩ | (cases h; done) | (simp; done) | (simp_all only [Bool.not_false, Bool.not_true, and_self]; done)) | refine Or.inl (CCallK_plain e66 (c66 l hl' (order l)[i] (order l)[k]) rfl rfl ?_ (by intro h; first | exact trivial | exact h | exact ⟨h, h⟩ | (cases h; done) | (simp; done) | (simp_all only [Bool.not_false, Bool.not_true, and_self]; done)))
      simp (maxSteps := 2000000) only [go_sem, ↓reduceIte, reduceCtorEq, Nat.reduceAdd, Nat.reduceMul, Nat.reduceSub, Nat.reduceLT, Nat.reduceLeDiff, Nat.reduceEqDiff, Int.reduceToNat, Int.reduceLT, Int.reduceLE, Int.reduceNeg, hdi2, hw2, getD_map hlt, getD_map hkl, encI, List.length_map]
      refine ⟨fun h => ?_, fun h => ?_⟩
      · rw [any_take_true hlt2 hkl h, cond_true] at hinv
        apply hK2
        simp (maxSteps := 2000000) only [go_sem, ↓reduceIte, reduceCtorEq, Nat.reduceAdd, Nat.reduceMul, Nat.reduceSub, Nat.reduceLT, Nat.reduceLeDiff, Nat.reduceEqDiff, Int.reduceToNat, Int.reduceLT, Int.reduceLE, Int.reduceNeg, hdi2, hw2, getD_map hlt, getD_map hkl, encI, List.length_map]
        apply hK
        simp (maxSteps := 2000000) only [go_sem, ↓reduceIte, reduceCtorEq, Nat.reduceAdd, Nat.reduceMul, Nat.reduceSub, Nat.reduceLT, Nat.reduceLeDiff, Nat.reduceEqDiff, Int.reduceToNat, Int.reduceLT, Int.reduceLE, Int.reduceNeg, hdi2, hw2, getD_map hlt, getD_map hkl, encI, List.length_map]
        refine Fin.intro Try.results68 [] (by simp (maxSteps := 2000000) only [go_sem, ↓reduceIte, reduceCtorEq, Nat.reduceAdd, Nat.reduceMul, Nat.reduceSub, Nat.reduceLT, Nat.reduceLeDiff, Nat.reduceEqDiff, Int.reduceToNat, Int.reduceLT, Int.reduceLE, Int.reduceNeg, resA]; rfl) ?_ ?_ (by simp) rfl (by simp) ?_ <;> try trivial
        simp only [packA, AV.renF, AV.renF1, Leaf.renF, AV.one.injEq, Leaf.dat.injEq, D.bool.injEq, D.int.injEq, D.str.injEq, AV.agg.injEq, AV.tup.injEq, List.cons.injEq, and_true, true_and, List.map_cons, List.map_nil]
        exact hinv.symm
      · (apply hK2
         exact ⟨i - (k + 1), _, by omega, Ent.weak (ids := [0]) (by simp) rfl (by simp) (by simp [objsLe, envLe, find, St.obj, AObj.renF, AV.renF, AV.renF1, Leaf.renF, LowAll, AV.Low, AV.Low1, Leaf.Low, AObj.Low, Ptr.renF, Ptr.Low] <;> try rfl) (by simp [objsLe, envLe, find, St.obj, AObj.renF, AV.renF, AV.renF1, Leaf.renF, LowAll, AV.Low, AV.Low1, Leaf.Low, AObj.Low, Ptr.renF, Ptr.Low] <;> try rfl) (by simp [objsLe, envLe, find, St.obj, AObj.renF, AV.renF, AV.renF1, Leaf.renF, LowAll, AV.Low, AV.Low1, Leaf.Low, AObj.Low, Ptr.renF, Ptr.Low]), k + 1, by omega, rfl, fun j hj hjk => if e : j = k then by subst e; exact h else hinv2 j hj (by omega), rfl⟩)
    · have hge2' : i = k := by omega
      subst hge2'
      have hdi2 : decide (((i : Nat) : Int) < ((i : Nat) : Int)) = false := by simp
      rw [any_take_false hinv2, cond_false, ← List.take_succ_eq_append_getElem hlt] at hinv
      simp (maxSteps := 2000000) only [go_sem, ↓reduceIte, reduceCtorEq, Nat.reduceAdd, Nat.reduceMul, Nat.reduceSub, Nat.reduceLT, Nat.reduceLeDiff, Nat.reduceEqDiff, Int.reduceToNat, Int.reduceLT, Int.reduceLE, Int.reduceNeg, hdi2, hw, getD_map hlt, encI, List.length_map]
      apply hK2
      simp (maxSteps := 2000000) only [go_sem, ↓reduceIte, reduceCtorEq, Nat.reduceAdd, Nat.reduceMul, Nat.reduceSub, Nat.reduceLT, Nat.reduceLeDiff, Nat.reduceEqDiff, Int.reduceToNat, Int.reduceLT, Int.reduceLE, Int.reduceNeg, hdi2, hw, getD_map hlt, encI, List.length_map]
      (apply hK
       exact ⟨(order l).length - (i + 1), _, by omega, Ent.weak (ids := [0]) (by simp) rfl (by simp) (by simp [objsLe, envLe, find, St.obj, AObj.renF, AV.renF, AV.renF1, Leaf.renF, LowAll, AV.Low, AV.Low1, Leaf.Low, AObj.Low, Ptr.renF, Ptr.Low] <;> try rfl) (by simp [objsLe, envLe, find, St.obj, AObj.renF, AV.renF, AV.renF1, Leaf.renF, LowAll, AV.Low, AV.Low1, Leaf.Low, AObj.Low, Ptr.renF, Ptr.Low] <;> try rfl) (by simp [objsLe, envLe, find, St.obj, AObj.renF, AV.renF, AV.renF1, Leaf.renF, LowAll, AV.Low, AV.Low1, Leaf.Low, AObj.Low, Ptr.renF, Ptr.Low]), i + 1, by omega, rfl, hinv, rfl⟩)
  · have hge' : (order l).length = i := by omega
    subst hge'
    have hdi : decide ((((order l).length : Nat) : Int) < (((order l).length : Nat) : Int)) = false := by simp
    rw [List.drop_length, strictGo] at hinv
    simp (maxSteps := 2000000) only [go_sem, ↓reduceIte, reduceCtorEq, Nat.reduceAdd, Nat.reduceMul, Nat.reduceSub, Nat.reduceLT, Nat.reduceLeDiff, Nat.reduceEqDiff, Int.reduceToNat, Int.reduceLT, Int.reduceLE, Int.reduceNeg, hdi, List.length_map]
    apply hK
    simp (maxSteps := 2000000) only [go_sem, ↓reduceIte, reduceCtorEq, Nat.reduceAdd, Nat.reduceMul, Nat.reduceSub, Nat.reduceLT, Nat.reduceLeDiff, Nat.reduceEqDiff, Int.reduceToNat, Int.reduceLT, Int.reduceLE, Int.reduceNeg]
    refine Fin.intro Try.results68 [] (by simp (maxSteps := 2000000) only [go_sem, ↓reduceIte, reduceCtorEq, Nat.reduceAdd, Nat.reduceMul, Nat.reduceSub, Nat.reduceLT, Nat.reduceLeDiff, Nat.reduceEqDiff, Int.reduceToNat, Int.reduceLT, Int.reduceLE, Int.reduceNeg, resA]; rfl) ?_ ?_ (by simp) rfl (by simp) ?_ <;> try trivial
    simp only [packA, AV.renF, AV.renF1, Leaf.renF, AV.one.injEq, Leaf.dat.injEq, D.bool.injEq, D.int.injEq, D.str.injEq, AV.agg.injEq, AV.tup.injEq, List.cons.injEq, and_true, true_and, List.map_cons, List.map_nil]
    exact hinv.symm
end Go.Proofs.Ytkfpkemibnmkoaa.Mod
