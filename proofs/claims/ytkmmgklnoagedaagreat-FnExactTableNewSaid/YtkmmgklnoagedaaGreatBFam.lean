/- Contracts: Fam. -/
import Derived.Test.YtkmmgklnoagedaaGreatRows
import Derived.Test.YtkmmgklnoagedaaGreatBTy
import Derived.Test.YtkmmgklnoagedaaGreatAbsTac
import Derived.Test.YtkmmgklnoagedaaGreatAbsData
import Derived.Test.YtkmmgklnoagedaaGreatBBase
import Derived.WalkKit
import Derived.ProofKit
import Derived.OpenShut
namespace Go.Proofs.YtkmmgklnoagedaaGreat.Mod
open Go.Proofs.Tryz Go.Abs Go.Proofs.YtkmmgklnoagedaaGreat.Ty Go.ChangeShapes Go.WideShapes Go.ChangeAt Go.RowKit
set_option linter.unusedSimpArgs false
set_option linter.unusedVariables false
set_option maxHeartbeats 8000000
set_option maxRecDepth 100000
structure Seen where
 Bkt : Int
 Ver : Int
 deriving DecidableEq
def encSeen (x : Seen) : List D := [.int .i64 x.Bkt, .int .i64 x.Ver]
def Seen.wf (x : Seen) : Prop := (Lit.int .i64 x.Bkt).wf = true /\ (Lit.int .i64 x.Ver).wf = true /\ True
theorem Seen.eq_iff (x y : Seen) : x = y ↔ x.Bkt = y.Bkt /\ x.Ver = y.Ver := by cases x; cases y; simp
theorem c276 (x y : Seen) : Ctr prog 276 [.agg ((encSeen x).map .dat), .agg ((encSeen y).map .dat)] [] (.one (.dat (.bool (decide (x = y))))) [] := by
 simp only [encSeen, List.map_cons, List.map_nil]
 refine Ctr.bd mixed func276 rfl ?_
 refine evl ?_
 repeat' first
  | ((with_reducible show Abs.Fin _ _ _ _ _ _); refine Fin.nt results276 [] ?_ ?_ ?_ <;> try trivial)
  | with_reducible intro h
  | ((with_reducible show _ /\ _); apply And.intro)
 all_goals try ((refine rsl ?_; try exact .intro))
 all_goals simp_all [Seen.eq_iff]
theorem c187 (l l' : List Seen) (hl : l.length <= maxLen) (hl' : l'.length <= maxLen) : Ctr prog 187 [.one (.dat (.sl 2 (l.map encSeen))), .one (.dat (.sl 2 (l'.map encSeen)))] [] (.one (.dat (.bool (decide (l = l'))))) [] := by
 refine Ctr.bd mixed func187 rfl ?_
 refine evl ?_
 constructor <;> intro h
 ·have hne : l.length ≠ l'.length := by simp at h; omega
  refine Fin.nt results187 [] ?_ ?_ ?_ <;> try trivial
  (refine rsl ?_; try exact .intro)
  symm; rw [decide_eq_false_iff_not]
  intro e; exact hne (by rw [e])
 have hlen : l.length = l'.length := by simp at h; omega
 refine LoopK_intro (fun n s => ∃ i : Nat, i <= l.length /\ n = l.length - i /\ l.take i = l'.take i /\ s = mkSt [(5, .one (.dat (.int .i64 i))), (1, .one (.dat (.sl 2 (l'.map encSeen)))), (0, .one (.dat (.sl 2 (l.map encSeen))))] []) l.length _
  (Ent.weak (ids := []) (by simp) rfl (by simp) ?_ ?_ ?_) ⟨0, by omega, by omega, rfl, rfl⟩ ?_
 ·simp [objsLe, St.obj, find, AObj.renF]
 ·simp [envLe, find, AV.renF, AV.renF1, Leaf.renF]
 ·simp [LowAll, AV.Low, AV.Low1, Leaf.Low, AObj.Low]
 rintro n s ⟨i, hi, rfl, ht, rfl⟩ K hK
 refine evl ?_
 constructor <;> intro h
 ·have hlt : i < l.length := by simpa using h
  have hlt' : i < l'.length := by omega
  refine ⟨⟨by omega, by omega⟩, hlt, ⟨by omega, by omega⟩, hlt', ?_⟩
  simp only [getD_map hlt, getD_map hlt', encSeen, List.map_cons, List.map_nil, List.take_succ_cons, List.take_zero]
  first
   | refine CCallK_intro e276 (fun _ => ⟨trivial, c276 l[i] l'[i]⟩) rfl rfl ?_
   | refine Or.inl (CCallK_intro e276 (fun _ => ⟨trivial, c276 l[i] l'[i]⟩) rfl rfl ?_)
  refine sv0 ?_
  constructor <;> intro h
  ·apply hK
   refine evl ?_
   refine Fin.nt results187 [] ?_ ?_ ?_ <;> try trivial
   (refine rsl ?_; try exact .intro)
   symm; rw [decide_eq_false_iff_not]
   rintro rfl; simp at h
  ·apply hK
   have he : l[i] = l'[i] := by simpa using h
   refine ⟨l.length - (i + 1), _, by omega, Ent.weak (ids := []) (by simp) rfl (by simp) ?_ ?_ ?_, i + 1, by omega, rfl, ?_, rfl⟩
   ·simp [objsLe, St.obj, find, AObj.renF]
   ·simp [envLe, find, AV.renF, AV.renF1, Leaf.renF]
   ·simp [LowAll, AV.Low, AV.Low1, Leaf.Low, AObj.Low]
   ·rw [List.take_succ_eq_append_getElem hlt, List.take_succ_eq_append_getElem hlt', ht, he]
 ·have hge : i = l.length := by simp at h; omega
  subst hge
  apply hK
  refine evl ?_
  refine Fin.nt results187 [] ?_ ?_ ?_ <;> try trivial
  (refine rsl ?_; try exact .intro)
  symm; rw [decide_eq_true_iff]
  rw [List.take_of_length_le (Nat.le_refl _), List.take_of_length_le (by omega)] at ht
  exact ht
def markSeen (k : Int) : Seen := ⟨k, k + 1⟩
def markSeens (k : Int) (n : Nat) : List (List D) := (List.range n).map fun i => encSeen (markSeen (k + 2 * (i : Nat)))
theorem markSeens_length (k : Int) (n : Nat) : (markSeens k n).length = n := by simp [markSeens]
theorem c104 (l : List Seen) (k : Int) (hk0 : 0 <= k) (hk : k + 2 * l.length <= 4611686018427387904) : Ctr prog 104 [.one (.own 0), .one (.dat (.int .i64 k))] [.vec 2 true (l.map encSeen)] (.one (.dat (.int .i64 (k + 2 * l.length)))) [.vec 2 true (markSeens k l.length)] := by
 refine Ctr.of_body mixed func104 rfl (by kernel_rfl) (Nat.le_of_ble_eq_true rfl) (by simp [AV.Clean, AV.Clean1, Leaf.Clean, D.flat]) (by simp [AObj.Sep]) (by simp) ?_ (by simp [AV.Low, AV.Low1, Leaf.Low]) ?_
 ·intro o ho
  have : o = 0 := by simpa using ho
  subst this
  simp [Objs, Compat, markSeens]
 show wpA _ _ _ (FinQ _ _ _ _ _) _
 unfold markSeens
 refine evl ?_
 refine LoopK_intro (fun n s => ∃ i : Nat, i <= l.length /\ n = l.length - i /\ s = mkSt [(5, .one (.dat (.int .i64 i))), (1, .one (.dat (.int .i64 (k + 2 * (i : Nat))))), (0, .one (.own 0))]
   [.vec 2 true ((List.range i).map (fun i => encSeen (markSeen (k + 2 * (i : Nat)))) ++ (l.drop i).map encSeen)]) l.length _
  (Ent.wk [0]) ⟨0, by omega, by omega, rfl⟩ ?_
 rintro n s ⟨i, hi, rfl, rfl⟩ K hK
 have hlen : ((List.range i).map (fun i => encSeen (markSeen (k + 2 * (i : Nat)))) ++ (l.drop i).map encSeen).length = l.length := by simp; omega
 rcases Nat.lt_or_ge i l.length with hlt | hge
 ·have hA : ((List.range i).map (fun i => encSeen (markSeen (k + 2 * (i : Nat))))).length = i := by simp
  have hd : decide ((i : Int) < l.length) = true := by simpa using hlt
  have hw := wrap_succ hlt (show l.length <= maxLen by unfold maxLen; omega)
  have hw1 : IntKind.i64.wrap (k + 2 * (i : Int) + 1) = k + 2 * (i : Int) + 1 := by rw [IntKind.wrap_i64]; omega
  have hw2 : IntKind.i64.wrap (k + 2 * (i : Int) + 1 + 1) = k + 2 * (i : Int) + 1 + 1 := by rw [IntKind.wrap_i64]; omega
  rw [List.drop_eq_getElem_cons hlt, List.map_cons] at hlen ⊢
  generalize hAd : (List.range i).map (fun i => encSeen (markSeen (k + 2 * (i : Nat)))) = A at hA hlen ⊢
  have hl1 : ∀ x, (A ++ x :: (l.drop (i + 1)).map encSeen).length = l.length := fun x => by
   rw [List.length_append, List.length_cons] at hlen ⊢; exact hlen
  simp (maxSteps := 2000000) only [go_sem, seval, hl1, hd, set_mid hA, getD_mid hA, encSeen, hw, hw1, hw2, D.flat]
  repeat' ((with_reducible show _ /\ _); apply And.intro)
  all_goals first
   | (with_reducible exact hlt)
   | omega
   | (exact (by decide : ((3 : Int) = 0 -> False)))
   | skip
  apply hK
  refine ⟨l.length - (i + 1), _, by omega, Ent.weak (ids := [0]) (by simp) rfl (by simp) ?_ ?_ (by simp [objsLe, envLe, find, St.obj, AObj.renF, AV.renF, AV.renF1, Leaf.renF, LowAll, AV.Low, AV.Low1, Leaf.Low, AObj.Low, Ptr.renF, Ptr.Low]), i + 1, by omega, rfl, rfl⟩
  ·rw [List.range_succ, List.map_append, hAd]
   simp [objsLe, envLe, find, St.obj, AObj.renF, AV.renF, AV.renF1, Leaf.renF, LowAll, AV.Low, AV.Low1, Leaf.Low, AObj.Low, Ptr.renF, Ptr.Low]
   rfl
  ·simp [objsLe, envLe, find, St.obj, AObj.renF, AV.renF, AV.renF1, Leaf.renF, LowAll, AV.Low, AV.Low1, Leaf.Low, AObj.Low, Ptr.renF, Ptr.Low]
   omega
 ·have hge' : i = l.length := by omega
  subst hge'
  have hd : decide ((l.length : Int) < l.length) = false := by simp
  refine sv1 ?_
  apply hK
  refine evl ?_
  refine Fin.nt results104 [0] ?_ ?_ ?_ <;> try trivial
  rw [List.drop_length, List.map_nil, List.append_nil]
  simp [objsLe, envLe, find, St.obj, AObj.renF, AV.renF, AV.renF1, Leaf.renF, LowAll, AV.Low, AV.Low1, Leaf.Low, AObj.Low, Ptr.renF, Ptr.Low]
theorem c112 (n : Nat) (k : Int) (hk0 : 0 <= k) (hk : k + 2 * n <= 4611686018427387904) : Ctr prog 112 [.one (.dat (.sl 2 (markSeens k n))), .one (.dat (.int .i64 k))] [] (.one (.dat (.int .i64 (k + 2 * n)))) [] := by
 refine Ctr.bd mixed func112 rfl ?_
 unfold markSeens
 refine evl ?_
 refine LoopK_intro (fun m s => ∃ i : Nat, i <= n /\ m = n - i /\ s = mkSt [(5, .one (.dat (.int .i64 i))), (1, .one (.dat (.int .i64 (k + 2 * (i : Nat))))), (0, .one (.dat (.sl 2 ((List.range n).map fun i => encSeen (markSeen (k + 2 * (i : Nat)))))))] []) n _
  (Ent.wk []) ⟨0, by omega, by omega, rfl⟩ ?_
 rintro m s ⟨i, hi, rfl, rfl⟩ K hK
 have hlen : ((List.range n).map fun i => encSeen (markSeen (k + 2 * (i : Nat)))).length = n := by simp
 rcases Nat.lt_or_ge i n with hlt | hge
 ·have hd : decide ((i : Int) < n) = true := by simpa using hlt
  have hw := wrap_succ hlt (show n <= maxLen by unfold maxLen; omega)
  have hw1 : IntKind.i64.wrap (k + 2 * (i : Int) + 1) = k + 2 * (i : Int) + 1 := by rw [IntKind.wrap_i64]; omega
  have hw2 : IntKind.i64.wrap (k + 2 * (i : Int) + 1 + 1) = k + 2 * (i : Int) + 1 + 1 := by rw [IntKind.wrap_i64]; omega
  have hg : ((List.range n).map fun i => encSeen (markSeen (k + 2 * (i : Nat)))).getD i [] = encSeen (markSeen (k + 2 * (i : Nat))) := getD_range hlt
  generalize ((List.range n).map fun i => encSeen (markSeen (k + 2 * (i : Nat)))) = L at hlen hg hK ⊢
  simp (maxSteps := 2000000) only [go_sem, seval, hlen, hd, hg, encSeen, markSeen, hw, hw1, hw2]
  repeat' first
   | with_reducible intro h
   | ((with_reducible show _ /\ _); apply And.intro)
  all_goals try (first | omega | exact hlt | exact absurd ‹(3 : Int) = 0› (by decide))
  apply hK
  refine ⟨n - (i + 1), _, by omega, Ent.weak (ids := []) (by simp) rfl (by simp) (by simp [objsLe, envLe, find, St.obj, AObj.renF, AV.renF, AV.renF1, Leaf.renF, LowAll, AV.Low, AV.Low1, Leaf.Low, AObj.Low, Ptr.renF, Ptr.Low]) (by simp [objsLe, envLe, find, St.obj, AObj.renF, AV.renF, AV.renF1, Leaf.renF, LowAll, AV.Low, AV.Low1, Leaf.Low, AObj.Low, Ptr.renF, Ptr.Low]; omega) (by simp [objsLe, envLe, find, St.obj, AObj.renF, AV.renF, AV.renF1, Leaf.renF, LowAll, AV.Low, AV.Low1, Leaf.Low, AObj.Low, Ptr.renF, Ptr.Low]), i + 1, by omega, rfl, rfl⟩
 ·have hge' : i = n := by omega
  subst hge'
  have hd : decide ((i : Int) < i) = false := by simp
  refine sv2 ?_
  apply hK
  refine evl ?_
  refine Fin.nt results112 [] ?_ ?_ ?_ <;> try trivial
structure Write where
 Key : Int
 Del : Bool
 Val : Int
 deriving DecidableEq
def encWrite (x : Write) : List D := [.int .i64 x.Key, .bool x.Del, .int .i64 x.Val]
def Write.wf (x : Write) : Prop := (Lit.int .i64 x.Key).wf = true /\ (Lit.int .i64 x.Val).wf = true /\ True
theorem Write.eq_iff (x y : Write) : x = y ↔ x.Key = y.Key /\ x.Del = y.Del /\ x.Val = y.Val := by cases x; cases y; simp
theorem c277 (x y : Write) : Ctr prog 277 [.agg ((encWrite x).map .dat), .agg ((encWrite y).map .dat)] [] (.one (.dat (.bool (decide (x = y))))) [] := by
 simp only [encWrite, List.map_cons, List.map_nil]
 refine Ctr.bd mixed func277 rfl ?_
 refine evl ?_
 repeat' first
  | ((with_reducible show Abs.Fin _ _ _ _ _ _); refine Fin.nt results277 [] ?_ ?_ ?_ <;> try trivial)
  | with_reducible intro h
  | ((with_reducible show _ /\ _); apply And.intro)
 all_goals try ((refine rsl ?_; try exact .intro))
 all_goals simp_all [Write.eq_iff]
theorem c188 (l l' : List Write) (hl : l.length <= maxLen) (hl' : l'.length <= maxLen) : Ctr prog 188 [.one (.dat (.sl 3 (l.map encWrite))), .one (.dat (.sl 3 (l'.map encWrite)))] [] (.one (.dat (.bool (decide (l = l'))))) [] := by
 refine Ctr.bd mixed func188 rfl ?_
 refine evl ?_
 constructor <;> intro h
 ·have hne : l.length ≠ l'.length := by simp at h; omega
  refine Fin.nt results188 [] ?_ ?_ ?_ <;> try trivial
  (refine rsl ?_; try exact .intro)
  symm; rw [decide_eq_false_iff_not]
  intro e; exact hne (by rw [e])
 have hlen : l.length = l'.length := by simp at h; omega
 refine LoopK_intro (fun n s => ∃ i : Nat, i <= l.length /\ n = l.length - i /\ l.take i = l'.take i /\ s = mkSt [(5, .one (.dat (.int .i64 i))), (1, .one (.dat (.sl 3 (l'.map encWrite)))), (0, .one (.dat (.sl 3 (l.map encWrite))))] []) l.length _
  (Ent.weak (ids := []) (by simp) rfl (by simp) ?_ ?_ ?_) ⟨0, by omega, by omega, rfl, rfl⟩ ?_
 ·simp [objsLe, St.obj, find, AObj.renF]
 ·simp [envLe, find, AV.renF, AV.renF1, Leaf.renF]
 ·simp [LowAll, AV.Low, AV.Low1, Leaf.Low, AObj.Low]
 rintro n s ⟨i, hi, rfl, ht, rfl⟩ K hK
 refine evl ?_
 constructor <;> intro h
 ·have hlt : i < l.length := by simpa using h
  have hlt' : i < l'.length := by omega
  refine ⟨⟨by omega, by omega⟩, hlt, ⟨by omega, by omega⟩, hlt', ?_⟩
  simp only [getD_map hlt, getD_map hlt', encWrite, List.map_cons, List.map_nil, List.take_succ_cons, List.take_zero]
  first
   | refine CCallK_intro e277 (fun _ => ⟨trivial, c277 l[i] l'[i]⟩) rfl rfl ?_
   | refine Or.inl (CCallK_intro e277 (fun _ => ⟨trivial, c277 l[i] l'[i]⟩) rfl rfl ?_)
  refine sv0 ?_
  constructor <;> intro h
  ·apply hK
   refine evl ?_
   refine Fin.nt results188 [] ?_ ?_ ?_ <;> try trivial
   (refine rsl ?_; try exact .intro)
   symm; rw [decide_eq_false_iff_not]
   rintro rfl; simp at h
  ·apply hK
   have he : l[i] = l'[i] := by simpa using h
   refine ⟨l.length - (i + 1), _, by omega, Ent.weak (ids := []) (by simp) rfl (by simp) ?_ ?_ ?_, i + 1, by omega, rfl, ?_, rfl⟩
   ·simp [objsLe, St.obj, find, AObj.renF]
   ·simp [envLe, find, AV.renF, AV.renF1, Leaf.renF]
   ·simp [LowAll, AV.Low, AV.Low1, Leaf.Low, AObj.Low]
   ·rw [List.take_succ_eq_append_getElem hlt, List.take_succ_eq_append_getElem hlt', ht, he]
 ·have hge : i = l.length := by simp at h; omega
  subst hge
  apply hK
  refine evl ?_
  refine Fin.nt results188 [] ?_ ?_ ?_ <;> try trivial
  (refine rsl ?_; try exact .intro)
  symm; rw [decide_eq_true_iff]
  rw [List.take_of_length_le (Nat.le_refl _), List.take_of_length_le (by omega)] at ht
  exact ht
def markWrite (k : Int) : Write := ⟨k, (k + 1).tmod 3 == 0, k + 1 + 1⟩
def markWrites (k : Int) (n : Nat) : List (List D) := (List.range n).map fun i => encWrite (markWrite (k + 3 * (i : Nat)))
theorem markWrites_length (k : Int) (n : Nat) : (markWrites k n).length = n := by simp [markWrites]
theorem c105 (l : List Write) (k : Int) (hk0 : 0 <= k) (hk : k + 3 * l.length <= 4611686018427387904) : Ctr prog 105 [.one (.own 0), .one (.dat (.int .i64 k))] [.vec 3 true (l.map encWrite)] (.one (.dat (.int .i64 (k + 3 * l.length)))) [.vec 3 true (markWrites k l.length)] := by
 refine Ctr.of_body mixed func105 rfl (by kernel_rfl) (Nat.le_of_ble_eq_true rfl) (by simp [AV.Clean, AV.Clean1, Leaf.Clean, D.flat]) (by simp [AObj.Sep]) (by simp) ?_ (by simp [AV.Low, AV.Low1, Leaf.Low]) ?_
 ·intro o ho
  have : o = 0 := by simpa using ho
  subst this
  simp [Objs, Compat, markWrites]
 show wpA _ _ _ (FinQ _ _ _ _ _) _
 unfold markWrites
 refine evl ?_
 refine LoopK_intro (fun n s => ∃ i : Nat, i <= l.length /\ n = l.length - i /\ s = mkSt [(5, .one (.dat (.int .i64 i))), (1, .one (.dat (.int .i64 (k + 3 * (i : Nat))))), (0, .one (.own 0))]
   [.vec 3 true ((List.range i).map (fun i => encWrite (markWrite (k + 3 * (i : Nat)))) ++ (l.drop i).map encWrite)]) l.length _
  (Ent.wk [0]) ⟨0, by omega, by omega, rfl⟩ ?_
 rintro n s ⟨i, hi, rfl, rfl⟩ K hK
 have hlen : ((List.range i).map (fun i => encWrite (markWrite (k + 3 * (i : Nat)))) ++ (l.drop i).map encWrite).length = l.length := by simp; omega
 rcases Nat.lt_or_ge i l.length with hlt | hge
 ·have hA : ((List.range i).map (fun i => encWrite (markWrite (k + 3 * (i : Nat))))).length = i := by simp
  have hd : decide ((i : Int) < l.length) = true := by simpa using hlt
  have hw := wrap_succ hlt (show l.length <= maxLen by unfold maxLen; omega)
  have hw1 : IntKind.i64.wrap (k + 3 * (i : Int) + 1) = k + 3 * (i : Int) + 1 := by rw [IntKind.wrap_i64]; omega
  have hw2 : IntKind.i64.wrap (k + 3 * (i : Int) + 1 + 1) = k + 3 * (i : Int) + 1 + 1 := by rw [IntKind.wrap_i64]; omega
  have hw3 : IntKind.i64.wrap (k + 3 * (i : Int) + 1 + 1 + 1) = k + 3 * (i : Int) + 1 + 1 + 1 := by rw [IntKind.wrap_i64]; omega
  rw [List.drop_eq_getElem_cons hlt, List.map_cons] at hlen ⊢
  generalize hAd : (List.range i).map (fun i => encWrite (markWrite (k + 3 * (i : Nat)))) = A at hA hlen ⊢
  have hl1 : ∀ x, (A ++ x :: (l.drop (i + 1)).map encWrite).length = l.length := fun x => by
   rw [List.length_append, List.length_cons] at hlen ⊢; exact hlen
  simp (maxSteps := 2000000) only [go_sem, seval, hl1, hd, set_mid hA, getD_mid hA, encWrite, hw, hw1, hw2, hw3, D.flat]
  repeat' ((with_reducible show _ /\ _); apply And.intro)
  all_goals first
   | (with_reducible exact hlt)
   | omega
   | (exact (by decide : ((3 : Int) = 0 -> False)))
   | skip
  apply hK
  refine ⟨l.length - (i + 1), _, by omega, Ent.weak (ids := [0]) (by simp) rfl (by simp) ?_ ?_ (by simp [objsLe, envLe, find, St.obj, AObj.renF, AV.renF, AV.renF1, Leaf.renF, LowAll, AV.Low, AV.Low1, Leaf.Low, AObj.Low, Ptr.renF, Ptr.Low]), i + 1, by omega, rfl, rfl⟩
  ·rw [List.range_succ, List.map_append, hAd]
   simp [objsLe, envLe, find, St.obj, AObj.renF, AV.renF, AV.renF1, Leaf.renF, LowAll, AV.Low, AV.Low1, Leaf.Low, AObj.Low, Ptr.renF, Ptr.Low]
   rfl
  ·simp [objsLe, envLe, find, St.obj, AObj.renF, AV.renF, AV.renF1, Leaf.renF, LowAll, AV.Low, AV.Low1, Leaf.Low, AObj.Low, Ptr.renF, Ptr.Low]
   omega
 ·have hge' : i = l.length := by omega
  subst hge'
  have hd : decide ((l.length : Int) < l.length) = false := by simp
  refine sv1 ?_
  apply hK
  refine evl ?_
  refine Fin.nt results105 [0] ?_ ?_ ?_ <;> try trivial
  rw [List.drop_length, List.map_nil, List.append_nil]
  simp [objsLe, envLe, find, St.obj, AObj.renF, AV.renF, AV.renF1, Leaf.renF, LowAll, AV.Low, AV.Low1, Leaf.Low, AObj.Low, Ptr.renF, Ptr.Low]
theorem c113 (n : Nat) (k : Int) (hk0 : 0 <= k) (hk : k + 3 * n <= 4611686018427387904) : Ctr prog 113 [.one (.dat (.sl 3 (markWrites k n))), .one (.dat (.int .i64 k))] [] (.one (.dat (.int .i64 (k + 3 * n)))) [] := by
 refine Ctr.bd mixed func113 rfl ?_
 unfold markWrites
 refine evl ?_
 refine LoopK_intro (fun m s => ∃ i : Nat, i <= n /\ m = n - i /\ s = mkSt [(5, .one (.dat (.int .i64 i))), (1, .one (.dat (.int .i64 (k + 3 * (i : Nat))))), (0, .one (.dat (.sl 3 ((List.range n).map fun i => encWrite (markWrite (k + 3 * (i : Nat)))))))] []) n _
  (Ent.wk []) ⟨0, by omega, by omega, rfl⟩ ?_
 rintro m s ⟨i, hi, rfl, rfl⟩ K hK
 have hlen : ((List.range n).map fun i => encWrite (markWrite (k + 3 * (i : Nat)))).length = n := by simp
 rcases Nat.lt_or_ge i n with hlt | hge
 ·have hd : decide ((i : Int) < n) = true := by simpa using hlt
  have hw := wrap_succ hlt (show n <= maxLen by unfold maxLen; omega)
  have hw1 : IntKind.i64.wrap (k + 3 * (i : Int) + 1) = k + 3 * (i : Int) + 1 := by rw [IntKind.wrap_i64]; omega
  have hw2 : IntKind.i64.wrap (k + 3 * (i : Int) + 1 + 1) = k + 3 * (i : Int) + 1 + 1 := by rw [IntKind.wrap_i64]; omega
  have hw3 : IntKind.i64.wrap (k + 3 * (i : Int) + 1 + 1 + 1) = k + 3 * (i : Int) + 1 + 1 + 1 := by rw [IntKind.wrap_i64]; omega
  have hg : ((List.range n).map fun i => encWrite (markWrite (k + 3 * (i : Nat)))).getD i [] = encWrite (markWrite (k + 3 * (i : Nat))) := getD_range hlt
  generalize ((List.range n).map fun i => encWrite (markWrite (k + 3 * (i : Nat)))) = L at hlen hg hK ⊢
  simp (maxSteps := 2000000) only [go_sem, seval, hlen, hd, hg, encWrite, markWrite, hw, hw1, hw2, hw3]
  repeat' first
   | with_reducible intro h
   | ((with_reducible show _ /\ _); apply And.intro)
  all_goals try (first | omega | exact hlt | exact absurd ‹(3 : Int) = 0› (by decide))
  apply hK
  refine ⟨n - (i + 1), _, by omega, Ent.weak (ids := []) (by simp) rfl (by simp) (by simp [objsLe, envLe, find, St.obj, AObj.renF, AV.renF, AV.renF1, Leaf.renF, LowAll, AV.Low, AV.Low1, Leaf.Low, AObj.Low, Ptr.renF, Ptr.Low]) (by simp [objsLe, envLe, find, St.obj, AObj.renF, AV.renF, AV.renF1, Leaf.renF, LowAll, AV.Low, AV.Low1, Leaf.Low, AObj.Low, Ptr.renF, Ptr.Low]; omega) (by simp [objsLe, envLe, find, St.obj, AObj.renF, AV.renF, AV.renF1, Leaf.renF, LowAll, AV.Low, AV.Low1, Leaf.Low, AObj.Low, Ptr.renF, Ptr.Low]), i + 1, by omega, rfl, rfl⟩
 ·have hge' : i = n := by omega
  subst hge'
  have hd : decide ((i : Int) < i) = false := by simp
  refine sv2 ?_
  apply hK
  refine evl ?_
  refine Fin.nt results113 [] ?_ ?_ ?_ <;> try trivial
structure Cmd where
 Kind : Int
 Key : Int
 Val : Int
 deriving DecidableEq
def encCmd (x : Cmd) : List D := [.int .i64 x.Kind, .int .i64 x.Key, .int .i64 x.Val]
def Cmd.wf (x : Cmd) : Prop := (Lit.int .i64 x.Kind).wf = true /\ (Lit.int .i64 x.Key).wf = true /\ (Lit.int .i64 x.Val).wf = true /\ True
theorem Cmd.eq_iff (x y : Cmd) : x = y ↔ x.Kind = y.Kind /\ x.Key = y.Key /\ x.Val = y.Val := by cases x; cases y; simp
theorem c296 (x : Cmd) : Ctr prog 296 [.agg ((encCmd x).map .dat)] [] (.agg ((encCmd x).map .dat)) [] := by
 simp only [encCmd, List.map_cons, List.map_nil]
 refine Ctr.bd mixed func296 rfl ?_
 refine evl ?_
 repeat' first
  | ((with_reducible show Abs.Fin _ _ _ _ _ _); refine Fin.nt results296 [] ?_ ?_ ?_ <;> try trivial)
  | with_reducible intro h
  | ((with_reducible show _ /\ _); apply And.intro)
 all_goals first | rfl | simp
theorem c229 (l : List Cmd) (hl : l.length <= 1048576) : Ctr prog 229 [.one (.dat (.sl 3 (l.map encCmd)))] [] (.one (.own 0)) [.vec 3 true (l.map encCmd)] := by
 refine Ctr.bd mixed func229 rfl ?_
 refine evl ?_
 refine ⟨by omega, ?_⟩
 refine LoopK_intro (fun n s => ∃ i : Nat, i <= l.length /\ n = l.length - i /\ s = mkSt [(4, .one (.dat (.int .i64 i))), (3, .one (.own 0)), (0, .one (.dat (.sl 3 (l.map encCmd))))]
   [.vec 3 true ((l.take i).map encCmd ++ List.replicate (l.length - i) [.int .i64 0, .int .i64 0, .int .i64 0])]) l.length _
  (Ent.weak (ids := [0]) (by simp) rfl (by simp) ?_ ?_ ?_) ⟨0, by omega, by omega, rfl⟩ ?_
 ·simp [objsLe, St.obj, find, AObj.renF]
 ·simp [envLe, find, AV.renF, AV.renF1, Leaf.renF]
 ·simp [LowAll, AV.Low, AV.Low1, Leaf.Low, AObj.Low]
 rintro n s ⟨i, hi, rfl, rfl⟩ K hK
 refine evl ?_
 constructor <;> intro h
 ·have hlt : i < l.length := by simpa using h
  refine ⟨⟨by omega, by omega⟩, hlt, ?_⟩
  simp only [getD_map hlt, encCmd, List.map_cons, List.map_nil, List.take_succ_cons, List.take_zero]
  refine CallK_pure e296 (c296 l[i]) rfl ?_
  simp (maxSteps := 2000000) only [go_sem, seval, encCmd, D.flat, wrap_succ hlt (le20 hl)]
  refine ⟨by simp; omega, by simp; omega, ?_⟩
  apply hK
  refine ⟨l.length - (i + 1), _, by omega, Ent.weak (ids := [0]) (by simp) rfl (by simp) ?_ ?_ ?_, i + 1, by omega, rfl, rfl⟩
  ·simp only [objsLe, St.obj, find, AObj.renF, if_true, Option.getD_some, List.getD_cons_zero, and_true]
   rw [<- take_set encCmd l _ hlt]
   exact ⟨Nat.zero_lt_one, Or.inr rfl⟩
  ·simp [envLe, find, AV.renF, AV.renF1, Leaf.renF]
  ·simp [LowAll, AV.Low, AV.Low1, Leaf.Low, AObj.Low]
 ·have hge : i = l.length := by simp at h; omega
  subst hge
  apply hK
  refine evl ?_
  refine Fin.nt results229 [0] ?_ ?_ ?_ <;> try trivial
  all_goals simp [objsLe, St.obj, find, AObj.renF]
theorem c206 (rows : List (List D)) (left : Int) (h0 : 0 <= left) (h1 : left <= 1048576) (hl : rows.length <= maxLen) : Ctr prog 206 [.one (.dat (.sl 3 rows)), .one (.dat (.int .i64 left))] [] (.one (.dat (.int .i64 (szL left rows.length)))) [] := by
 have hw := szL_wrap h0 h1 hl
 refine Ctr.bd mixed func206 rfl ?_
 refine sv3 ?_
 repeat' first
  | ((with_reducible show Abs.Fin _ _ _ _ _ _); refine Fin.nt results206 [] ?_ ?_ ?_ <;> try trivial)
  | with_reducible intro h
  | ((with_reducible show _ /\ _); apply And.intro)
 all_goals try ((refine rsl ?_; try exact .intro))
 all_goals simp_all [szL]
 all_goals omega
theorem c279 (x y : Cmd) : Ctr prog 279 [.agg ((encCmd x).map .dat), .agg ((encCmd y).map .dat)] [] (.one (.dat (.bool (decide (x = y))))) [] := by
 simp only [encCmd, List.map_cons, List.map_nil]
 refine Ctr.bd mixed func279 rfl ?_
 refine evl ?_
 repeat' first
  | ((with_reducible show Abs.Fin _ _ _ _ _ _); refine Fin.nt results279 [] ?_ ?_ ?_ <;> try trivial)
  | with_reducible intro h
  | ((with_reducible show _ /\ _); apply And.intro)
 all_goals try ((refine rsl ?_; try exact .intro))
 all_goals simp_all [Cmd.eq_iff]
theorem c190 (l l' : List Cmd) (hl : l.length <= maxLen) (hl' : l'.length <= maxLen) : Ctr prog 190 [.one (.dat (.sl 3 (l.map encCmd))), .one (.dat (.sl 3 (l'.map encCmd)))] [] (.one (.dat (.bool (decide (l = l'))))) [] := by
 refine Ctr.bd mixed func190 rfl ?_
 refine evl ?_
 constructor <;> intro h
 ·have hne : l.length ≠ l'.length := by simp at h; omega
  refine Fin.nt results190 [] ?_ ?_ ?_ <;> try trivial
  (refine rsl ?_; try exact .intro)
  symm; rw [decide_eq_false_iff_not]
  intro e; exact hne (by rw [e])
 have hlen : l.length = l'.length := by simp at h; omega
 refine LoopK_intro (fun n s => ∃ i : Nat, i <= l.length /\ n = l.length - i /\ l.take i = l'.take i /\ s = mkSt [(5, .one (.dat (.int .i64 i))), (1, .one (.dat (.sl 3 (l'.map encCmd)))), (0, .one (.dat (.sl 3 (l.map encCmd))))] []) l.length _
  (Ent.weak (ids := []) (by simp) rfl (by simp) ?_ ?_ ?_) ⟨0, by omega, by omega, rfl, rfl⟩ ?_
 ·simp [objsLe, St.obj, find, AObj.renF]
 ·simp [envLe, find, AV.renF, AV.renF1, Leaf.renF]
 ·simp [LowAll, AV.Low, AV.Low1, Leaf.Low, AObj.Low]
 rintro n s ⟨i, hi, rfl, ht, rfl⟩ K hK
 refine evl ?_
 constructor <;> intro h
 ·have hlt : i < l.length := by simpa using h
  have hlt' : i < l'.length := by omega
  refine ⟨⟨by omega, by omega⟩, hlt, ⟨by omega, by omega⟩, hlt', ?_⟩
  simp only [getD_map hlt, getD_map hlt', encCmd, List.map_cons, List.map_nil, List.take_succ_cons, List.take_zero]
  first
   | refine CCallK_intro e279 (fun _ => ⟨trivial, c279 l[i] l'[i]⟩) rfl rfl ?_
   | refine Or.inl (CCallK_intro e279 (fun _ => ⟨trivial, c279 l[i] l'[i]⟩) rfl rfl ?_)
  refine sv0 ?_
  constructor <;> intro h
  ·apply hK
   refine evl ?_
   refine Fin.nt results190 [] ?_ ?_ ?_ <;> try trivial
   (refine rsl ?_; try exact .intro)
   symm; rw [decide_eq_false_iff_not]
   rintro rfl; simp at h
  ·apply hK
   have he : l[i] = l'[i] := by simpa using h
   refine ⟨l.length - (i + 1), _, by omega, Ent.weak (ids := []) (by simp) rfl (by simp) ?_ ?_ ?_, i + 1, by omega, rfl, ?_, rfl⟩
   ·simp [objsLe, St.obj, find, AObj.renF]
   ·simp [envLe, find, AV.renF, AV.renF1, Leaf.renF]
   ·simp [LowAll, AV.Low, AV.Low1, Leaf.Low, AObj.Low]
   ·rw [List.take_succ_eq_append_getElem hlt, List.take_succ_eq_append_getElem hlt', ht, he]
 ·have hge : i = l.length := by simp at h; omega
  subst hge
  apply hK
  refine evl ?_
  refine Fin.nt results190 [] ?_ ?_ ?_ <;> try trivial
  (refine rsl ?_; try exact .intro)
  symm; rw [decide_eq_true_iff]
  rw [List.take_of_length_le (Nat.le_refl _), List.take_of_length_le (by omega)] at ht
  exact ht
def markCmd (k : Int) : Cmd := ⟨k, k + 1, k + 1 + 1⟩
def markCmds (k : Int) (n : Nat) : List (List D) := (List.range n).map fun i => encCmd (markCmd (k + 3 * (i : Nat)))
theorem markCmds_length (k : Int) (n : Nat) : (markCmds k n).length = n := by simp [markCmds]
theorem c99 (l : List Cmd) (k : Int) (hk0 : 0 <= k) (hk : k + 3 * l.length <= 4611686018427387904) : Ctr prog 99 [.one (.own 0), .one (.dat (.int .i64 k))] [.vec 3 true (l.map encCmd)] (.one (.dat (.int .i64 (k + 3 * l.length)))) [.vec 3 true (markCmds k l.length)] := by
 refine Ctr.of_body mixed func99 rfl (by kernel_rfl) (Nat.le_of_ble_eq_true rfl) (by simp [AV.Clean, AV.Clean1, Leaf.Clean, D.flat]) (by simp [AObj.Sep]) (by simp) ?_ (by simp [AV.Low, AV.Low1, Leaf.Low]) ?_
 ·intro o ho
  have : o = 0 := by simpa using ho
  subst this
  simp [Objs, Compat, markCmds]
 show wpA _ _ _ (FinQ _ _ _ _ _) _
 unfold markCmds
 refine evl ?_
 refine LoopK_intro (fun n s => ∃ i : Nat, i <= l.length /\ n = l.length - i /\ s = mkSt [(5, .one (.dat (.int .i64 i))), (1, .one (.dat (.int .i64 (k + 3 * (i : Nat))))), (0, .one (.own 0))]
   [.vec 3 true ((List.range i).map (fun i => encCmd (markCmd (k + 3 * (i : Nat)))) ++ (l.drop i).map encCmd)]) l.length _
  (Ent.wk [0]) ⟨0, by omega, by omega, rfl⟩ ?_
 rintro n s ⟨i, hi, rfl, rfl⟩ K hK
 have hlen : ((List.range i).map (fun i => encCmd (markCmd (k + 3 * (i : Nat)))) ++ (l.drop i).map encCmd).length = l.length := by simp; omega
 rcases Nat.lt_or_ge i l.length with hlt | hge
 ·have hA : ((List.range i).map (fun i => encCmd (markCmd (k + 3 * (i : Nat))))).length = i := by simp
  have hd : decide ((i : Int) < l.length) = true := by simpa using hlt
  have hw := wrap_succ hlt (show l.length <= maxLen by unfold maxLen; omega)
  have hw1 : IntKind.i64.wrap (k + 3 * (i : Int) + 1) = k + 3 * (i : Int) + 1 := by rw [IntKind.wrap_i64]; omega
  have hw2 : IntKind.i64.wrap (k + 3 * (i : Int) + 1 + 1) = k + 3 * (i : Int) + 1 + 1 := by rw [IntKind.wrap_i64]; omega
  have hw3 : IntKind.i64.wrap (k + 3 * (i : Int) + 1 + 1 + 1) = k + 3 * (i : Int) + 1 + 1 + 1 := by rw [IntKind.wrap_i64]; omega
  rw [List.drop_eq_getElem_cons hlt, List.map_cons] at hlen ⊢
  generalize hAd : (List.range i).map (fun i => encCmd (markCmd (k + 3 * (i : Nat)))) = A at hA hlen ⊢
  have hl1 : ∀ x, (A ++ x :: (l.drop (i + 1)).map encCmd).length = l.length := fun x => by
   rw [List.length_append, List.length_cons] at hlen ⊢; exact hlen
  simp (maxSteps := 2000000) only [go_sem, seval, hl1, hd, set_mid hA, getD_mid hA, encCmd, hw, hw1, hw2, hw3, D.flat]
  repeat' ((with_reducible show _ /\ _); apply And.intro)
  all_goals first
   | (with_reducible exact hlt)
   | omega
   | (exact (by decide : ((3 : Int) = 0 -> False)))
   | skip
  apply hK
  refine ⟨l.length - (i + 1), _, by omega, Ent.weak (ids := [0]) (by simp) rfl (by simp) ?_ ?_ (by simp [objsLe, envLe, find, St.obj, AObj.renF, AV.renF, AV.renF1, Leaf.renF, LowAll, AV.Low, AV.Low1, Leaf.Low, AObj.Low, Ptr.renF, Ptr.Low]), i + 1, by omega, rfl, rfl⟩
  ·rw [List.range_succ, List.map_append, hAd]
   simp [objsLe, envLe, find, St.obj, AObj.renF, AV.renF, AV.renF1, Leaf.renF, LowAll, AV.Low, AV.Low1, Leaf.Low, AObj.Low, Ptr.renF, Ptr.Low]
   rfl
  ·simp [objsLe, envLe, find, St.obj, AObj.renF, AV.renF, AV.renF1, Leaf.renF, LowAll, AV.Low, AV.Low1, Leaf.Low, AObj.Low, Ptr.renF, Ptr.Low]
   omega
 ·have hge' : i = l.length := by omega
  subst hge'
  have hd : decide ((l.length : Int) < l.length) = false := by simp
  refine sv1 ?_
  apply hK
  refine evl ?_
  refine Fin.nt results99 [0] ?_ ?_ ?_ <;> try trivial
  rw [List.drop_length, List.map_nil, List.append_nil]
  simp [objsLe, envLe, find, St.obj, AObj.renF, AV.renF, AV.renF1, Leaf.renF, LowAll, AV.Low, AV.Low1, Leaf.Low, AObj.Low, Ptr.renF, Ptr.Low]
theorem c111 (n : Nat) (k : Int) (hk0 : 0 <= k) (hk : k + 3 * n <= 4611686018427387904) : Ctr prog 111 [.one (.dat (.sl 3 (markCmds k n))), .one (.dat (.int .i64 k))] [] (.one (.dat (.int .i64 (k + 3 * n)))) [] := by
 refine Ctr.bd mixed func111 rfl ?_
 unfold markCmds
 refine evl ?_
 refine LoopK_intro (fun m s => ∃ i : Nat, i <= n /\ m = n - i /\ s = mkSt [(5, .one (.dat (.int .i64 i))), (1, .one (.dat (.int .i64 (k + 3 * (i : Nat))))), (0, .one (.dat (.sl 3 ((List.range n).map fun i => encCmd (markCmd (k + 3 * (i : Nat)))))))] []) n _
  (Ent.wk []) ⟨0, by omega, by omega, rfl⟩ ?_
 rintro m s ⟨i, hi, rfl, rfl⟩ K hK
 have hlen : ((List.range n).map fun i => encCmd (markCmd (k + 3 * (i : Nat)))).length = n := by simp
 rcases Nat.lt_or_ge i n with hlt | hge
 ·have hd : decide ((i : Int) < n) = true := by simpa using hlt
  have hw := wrap_succ hlt (show n <= maxLen by unfold maxLen; omega)
  have hw1 : IntKind.i64.wrap (k + 3 * (i : Int) + 1) = k + 3 * (i : Int) + 1 := by rw [IntKind.wrap_i64]; omega
  have hw2 : IntKind.i64.wrap (k + 3 * (i : Int) + 1 + 1) = k + 3 * (i : Int) + 1 + 1 := by rw [IntKind.wrap_i64]; omega
  have hw3 : IntKind.i64.wrap (k + 3 * (i : Int) + 1 + 1 + 1) = k + 3 * (i : Int) + 1 + 1 + 1 := by rw [IntKind.wrap_i64]; omega
  have hg : ((List.range n).map fun i => encCmd (markCmd (k + 3 * (i : Nat)))).getD i [] = encCmd (markCmd (k + 3 * (i : Nat))) := getD_range hlt
  generalize ((List.range n).map fun i => encCmd (markCmd (k + 3 * (i : Nat)))) = L at hlen hg hK ⊢
  simp (maxSteps := 2000000) only [go_sem, seval, hlen, hd, hg, encCmd, markCmd, hw, hw1, hw2, hw3]
  repeat' first
   | with_reducible intro h
   | ((with_reducible show _ /\ _); apply And.intro)
  all_goals try (first | omega | exact hlt | exact absurd ‹(3 : Int) = 0› (by decide))
  apply hK
  refine ⟨n - (i + 1), _, by omega, Ent.weak (ids := []) (by simp) rfl (by simp) (by simp [objsLe, envLe, find, St.obj, AObj.renF, AV.renF, AV.renF1, Leaf.renF, LowAll, AV.Low, AV.Low1, Leaf.Low, AObj.Low, Ptr.renF, Ptr.Low]) (by simp [objsLe, envLe, find, St.obj, AObj.renF, AV.renF, AV.renF1, Leaf.renF, LowAll, AV.Low, AV.Low1, Leaf.Low, AObj.Low, Ptr.renF, Ptr.Low]; omega) (by simp [objsLe, envLe, find, St.obj, AObj.renF, AV.renF, AV.renF1, Leaf.renF, LowAll, AV.Low, AV.Low1, Leaf.Low, AObj.Low, Ptr.renF, Ptr.Low]), i + 1, by omega, rfl, rfl⟩
 ·have hge' : i = n := by omega
  subst hge'
  have hd : decide ((i : Int) < i) = false := by simp
  refine sv2 ?_
  apply hK
  refine evl ?_
  refine Fin.nt results111 [] ?_ ?_ ?_ <;> try trivial
structure Bkt where
 Head : Int
 Ver : Int
 Lock : Int
 deriving DecidableEq
def encBkt (x : Bkt) : List D := [.int .i64 x.Head, .int .i64 x.Ver, .int .i64 x.Lock]
def Bkt.wf (x : Bkt) : Prop := (Lit.int .i64 x.Head).wf = true /\ (Lit.int .i64 x.Ver).wf = true /\ (Lit.int .i64 x.Lock).wf = true /\ True
theorem Bkt.eq_iff (x y : Bkt) : x = y ↔ x.Head = y.Head /\ x.Ver = y.Ver /\ x.Lock = y.Lock := by cases x; cases y; simp
theorem c95 (x y : Bkt) : Ctr prog 95 [.agg ((encBkt x).map .dat), .agg ((encBkt y).map .dat)] [] (.one (.dat (.bool (decide (x = y))))) [] := by
 simp only [encBkt, List.map_cons, List.map_nil]
 refine Ctr.bd mixed func95 rfl ?_
 refine evl ?_
 repeat' first
  | ((with_reducible show Abs.Fin _ _ _ _ _ _); refine Fin.nt results95 [] ?_ ?_ ?_ <;> try trivial)
  | with_reducible intro h
  | ((with_reducible show _ /\ _); apply And.intro)
 all_goals try ((refine rsl ?_; try exact .intro))
 all_goals simp_all [Bkt.eq_iff]
theorem c33 (l l' : List Bkt) (hl : l.length <= maxLen) (hl' : l'.length <= maxLen) : Ctr prog 33 [.one (.dat (.sl 3 (l.map encBkt))), .one (.dat (.sl 3 (l'.map encBkt)))] [] (.one (.dat (.bool (decide (l = l'))))) [] := by
 refine Ctr.bd mixed func33 rfl ?_
 refine evl ?_
 constructor <;> intro h
 ·have hne : l.length ≠ l'.length := by simp at h; omega
  refine Fin.nt results33 [] ?_ ?_ ?_ <;> try trivial
  (refine rsl ?_; try exact .intro)
  symm; rw [decide_eq_false_iff_not]
  intro e; exact hne (by rw [e])
 have hlen : l.length = l'.length := by simp at h; omega
 refine LoopK_intro (fun n s => ∃ i : Nat, i <= l.length /\ n = l.length - i /\ l.take i = l'.take i /\ s = mkSt [(5, .one (.dat (.int .i64 i))), (1, .one (.dat (.sl 3 (l'.map encBkt)))), (0, .one (.dat (.sl 3 (l.map encBkt))))] []) l.length _
  (Ent.weak (ids := []) (by simp) rfl (by simp) ?_ ?_ ?_) ⟨0, by omega, by omega, rfl, rfl⟩ ?_
 ·simp [objsLe, St.obj, find, AObj.renF]
 ·simp [envLe, find, AV.renF, AV.renF1, Leaf.renF]
 ·simp [LowAll, AV.Low, AV.Low1, Leaf.Low, AObj.Low]
 rintro n s ⟨i, hi, rfl, ht, rfl⟩ K hK
 refine evl ?_
 constructor <;> intro h
 ·have hlt : i < l.length := by simpa using h
  have hlt' : i < l'.length := by omega
  refine ⟨⟨by omega, by omega⟩, hlt, ⟨by omega, by omega⟩, hlt', ?_⟩
  simp only [getD_map hlt, getD_map hlt', encBkt, List.map_cons, List.map_nil, List.take_succ_cons, List.take_zero]
  first
   | refine CCallK_intro e95 (fun _ => ⟨trivial, c95 l[i] l'[i]⟩) rfl rfl ?_
   | refine Or.inl (CCallK_intro e95 (fun _ => ⟨trivial, c95 l[i] l'[i]⟩) rfl rfl ?_)
  refine sv0 ?_
  constructor <;> intro h
  ·apply hK
   refine evl ?_
   refine Fin.nt results33 [] ?_ ?_ ?_ <;> try trivial
   (refine rsl ?_; try exact .intro)
   symm; rw [decide_eq_false_iff_not]
   rintro rfl; simp at h
  ·apply hK
   have he : l[i] = l'[i] := by simpa using h
   refine ⟨l.length - (i + 1), _, by omega, Ent.weak (ids := []) (by simp) rfl (by simp) ?_ ?_ ?_, i + 1, by omega, rfl, ?_, rfl⟩
   ·simp [objsLe, St.obj, find, AObj.renF]
   ·simp [envLe, find, AV.renF, AV.renF1, Leaf.renF]
   ·simp [LowAll, AV.Low, AV.Low1, Leaf.Low, AObj.Low]
   ·rw [List.take_succ_eq_append_getElem hlt, List.take_succ_eq_append_getElem hlt', ht, he]
 ·have hge : i = l.length := by simp at h; omega
  subst hge
  apply hK
  refine evl ?_
  refine Fin.nt results33 [] ?_ ?_ ?_ <;> try trivial
  (refine rsl ?_; try exact .intro)
  symm; rw [decide_eq_true_iff]
  rw [List.take_of_length_le (Nat.le_refl _), List.take_of_length_le (by omega)] at ht
  exact ht
def markBkt (k : Int) : Bkt := ⟨k, k + 1, k + 1 + 1⟩
def markBkts (k : Int) (n : Nat) : List (List D) := (List.range n).map fun i => encBkt (markBkt (k + 3 * (i : Nat)))
theorem markBkts_length (k : Int) (n : Nat) : (markBkts k n).length = n := by simp [markBkts]
theorem c39 (l : List Bkt) (k : Int) (hk0 : 0 <= k) (hk : k + 3 * l.length <= 4611686018427387904) : Ctr prog 39 [.one (.own 0), .one (.dat (.int .i64 k))] [.vec 3 true (l.map encBkt)] (.one (.dat (.int .i64 (k + 3 * l.length)))) [.vec 3 true (markBkts k l.length)] := by
 refine Ctr.of_body mixed func39 rfl (by kernel_rfl) (Nat.le_of_ble_eq_true rfl) (by simp [AV.Clean, AV.Clean1, Leaf.Clean, D.flat]) (by simp [AObj.Sep]) (by simp) ?_ (by simp [AV.Low, AV.Low1, Leaf.Low]) ?_
 ·intro o ho
  have : o = 0 := by simpa using ho
  subst this
  simp [Objs, Compat, markBkts]
 show wpA _ _ _ (FinQ _ _ _ _ _) _
 unfold markBkts
 refine evl ?_
 refine LoopK_intro (fun n s => ∃ i : Nat, i <= l.length /\ n = l.length - i /\ s = mkSt [(5, .one (.dat (.int .i64 i))), (1, .one (.dat (.int .i64 (k + 3 * (i : Nat))))), (0, .one (.own 0))]
   [.vec 3 true ((List.range i).map (fun i => encBkt (markBkt (k + 3 * (i : Nat)))) ++ (l.drop i).map encBkt)]) l.length _
  (Ent.wk [0]) ⟨0, by omega, by omega, rfl⟩ ?_
 rintro n s ⟨i, hi, rfl, rfl⟩ K hK
 have hlen : ((List.range i).map (fun i => encBkt (markBkt (k + 3 * (i : Nat)))) ++ (l.drop i).map encBkt).length = l.length := by simp; omega
 rcases Nat.lt_or_ge i l.length with hlt | hge
 ·have hA : ((List.range i).map (fun i => encBkt (markBkt (k + 3 * (i : Nat))))).length = i := by simp
  have hd : decide ((i : Int) < l.length) = true := by simpa using hlt
  have hw := wrap_succ hlt (show l.length <= maxLen by unfold maxLen; omega)
  have hw1 : IntKind.i64.wrap (k + 3 * (i : Int) + 1) = k + 3 * (i : Int) + 1 := by rw [IntKind.wrap_i64]; omega
  have hw2 : IntKind.i64.wrap (k + 3 * (i : Int) + 1 + 1) = k + 3 * (i : Int) + 1 + 1 := by rw [IntKind.wrap_i64]; omega
  have hw3 : IntKind.i64.wrap (k + 3 * (i : Int) + 1 + 1 + 1) = k + 3 * (i : Int) + 1 + 1 + 1 := by rw [IntKind.wrap_i64]; omega
  rw [List.drop_eq_getElem_cons hlt, List.map_cons] at hlen ⊢
  generalize hAd : (List.range i).map (fun i => encBkt (markBkt (k + 3 * (i : Nat)))) = A at hA hlen ⊢
  have hl1 : ∀ x, (A ++ x :: (l.drop (i + 1)).map encBkt).length = l.length := fun x => by
   rw [List.length_append, List.length_cons] at hlen ⊢; exact hlen
  simp (maxSteps := 2000000) only [go_sem, seval, hl1, hd, set_mid hA, getD_mid hA, encBkt, hw, hw1, hw2, hw3, D.flat]
  repeat' ((with_reducible show _ /\ _); apply And.intro)
  all_goals first
   | (with_reducible exact hlt)
   | omega
   | (exact (by decide : ((3 : Int) = 0 -> False)))
   | skip
  apply hK
  refine ⟨l.length - (i + 1), _, by omega, Ent.weak (ids := [0]) (by simp) rfl (by simp) ?_ ?_ (by simp [objsLe, envLe, find, St.obj, AObj.renF, AV.renF, AV.renF1, Leaf.renF, LowAll, AV.Low, AV.Low1, Leaf.Low, AObj.Low, Ptr.renF, Ptr.Low]), i + 1, by omega, rfl, rfl⟩
  ·rw [List.range_succ, List.map_append, hAd]
   simp [objsLe, envLe, find, St.obj, AObj.renF, AV.renF, AV.renF1, Leaf.renF, LowAll, AV.Low, AV.Low1, Leaf.Low, AObj.Low, Ptr.renF, Ptr.Low]
   rfl
  ·simp [objsLe, envLe, find, St.obj, AObj.renF, AV.renF, AV.renF1, Leaf.renF, LowAll, AV.Low, AV.Low1, Leaf.Low, AObj.Low, Ptr.renF, Ptr.Low]
   omega
 ·have hge' : i = l.length := by omega
  subst hge'
  have hd : decide ((l.length : Int) < l.length) = false := by simp
  refine sv1 ?_
  apply hK
  refine evl ?_
  refine Fin.nt results39 [0] ?_ ?_ ?_ <;> try trivial
  rw [List.drop_length, List.map_nil, List.append_nil]
  simp [objsLe, envLe, find, St.obj, AObj.renF, AV.renF, AV.renF1, Leaf.renF, LowAll, AV.Low, AV.Low1, Leaf.Low, AObj.Low, Ptr.renF, Ptr.Low]
theorem c43 (n : Nat) (k : Int) (hk0 : 0 <= k) (hk : k + 3 * n <= 4611686018427387904) : Ctr prog 43 [.one (.dat (.sl 3 (markBkts k n))), .one (.dat (.int .i64 k))] [] (.one (.dat (.int .i64 (k + 3 * n)))) [] := by
 refine Ctr.bd mixed func43 rfl ?_
 unfold markBkts
 refine evl ?_
 refine LoopK_intro (fun m s => ∃ i : Nat, i <= n /\ m = n - i /\ s = mkSt [(5, .one (.dat (.int .i64 i))), (1, .one (.dat (.int .i64 (k + 3 * (i : Nat))))), (0, .one (.dat (.sl 3 ((List.range n).map fun i => encBkt (markBkt (k + 3 * (i : Nat)))))))] []) n _
  (Ent.wk []) ⟨0, by omega, by omega, rfl⟩ ?_
 rintro m s ⟨i, hi, rfl, rfl⟩ K hK
 have hlen : ((List.range n).map fun i => encBkt (markBkt (k + 3 * (i : Nat)))).length = n := by simp
 rcases Nat.lt_or_ge i n with hlt | hge
 ·have hd : decide ((i : Int) < n) = true := by simpa using hlt
  have hw := wrap_succ hlt (show n <= maxLen by unfold maxLen; omega)
  have hw1 : IntKind.i64.wrap (k + 3 * (i : Int) + 1) = k + 3 * (i : Int) + 1 := by rw [IntKind.wrap_i64]; omega
  have hw2 : IntKind.i64.wrap (k + 3 * (i : Int) + 1 + 1) = k + 3 * (i : Int) + 1 + 1 := by rw [IntKind.wrap_i64]; omega
  have hw3 : IntKind.i64.wrap (k + 3 * (i : Int) + 1 + 1 + 1) = k + 3 * (i : Int) + 1 + 1 + 1 := by rw [IntKind.wrap_i64]; omega
  have hg : ((List.range n).map fun i => encBkt (markBkt (k + 3 * (i : Nat)))).getD i [] = encBkt (markBkt (k + 3 * (i : Nat))) := getD_range hlt
  generalize ((List.range n).map fun i => encBkt (markBkt (k + 3 * (i : Nat)))) = L at hlen hg hK ⊢
  simp (maxSteps := 2000000) only [go_sem, seval, hlen, hd, hg, encBkt, markBkt, hw, hw1, hw2, hw3]
  repeat' first
   | with_reducible intro h
   | ((with_reducible show _ /\ _); apply And.intro)
  all_goals try (first | omega | exact hlt | exact absurd ‹(3 : Int) = 0› (by decide))
  apply hK
  refine ⟨n - (i + 1), _, by omega, Ent.weak (ids := []) (by simp) rfl (by simp) (by simp [objsLe, envLe, find, St.obj, AObj.renF, AV.renF, AV.renF1, Leaf.renF, LowAll, AV.Low, AV.Low1, Leaf.Low, AObj.Low, Ptr.renF, Ptr.Low]) (by simp [objsLe, envLe, find, St.obj, AObj.renF, AV.renF, AV.renF1, Leaf.renF, LowAll, AV.Low, AV.Low1, Leaf.Low, AObj.Low, Ptr.renF, Ptr.Low]; omega) (by simp [objsLe, envLe, find, St.obj, AObj.renF, AV.renF, AV.renF1, Leaf.renF, LowAll, AV.Low, AV.Low1, Leaf.Low, AObj.Low, Ptr.renF, Ptr.Low]), i + 1, by omega, rfl, rfl⟩
 ·have hge' : i = n := by omega
  subst hge'
  have hd : decide ((i : Int) < i) = false := by simp
  refine sv2 ?_
  apply hK
  refine evl ?_
  refine Fin.nt results43 [] ?_ ?_ ?_ <;> try trivial
structure Node where
 Key : Int
 Val : Int
 Next : Int
 deriving DecidableEq
def encNode (x : Node) : List D := [.int .i64 x.Key, .int .i64 x.Val, .int .i64 x.Next]
def Node.wf (x : Node) : Prop := (Lit.int .i64 x.Key).wf = true /\ (Lit.int .i64 x.Val).wf = true /\ (Lit.int .i64 x.Next).wf = true /\ True
theorem Node.eq_iff (x y : Node) : x = y ↔ x.Key = y.Key /\ x.Val = y.Val /\ x.Next = y.Next := by cases x; cases y; simp
theorem c185 (x y : Node) : Ctr prog 185 [.agg ((encNode x).map .dat), .agg ((encNode y).map .dat)] [] (.one (.dat (.bool (decide (x = y))))) [] := by
 simp only [encNode, List.map_cons, List.map_nil]
 refine Ctr.bd mixed func185 rfl ?_
 refine evl ?_
 repeat' first
  | ((with_reducible show Abs.Fin _ _ _ _ _ _); refine Fin.nt results185 [] ?_ ?_ ?_ <;> try trivial)
  | with_reducible intro h
  | ((with_reducible show _ /\ _); apply And.intro)
 all_goals try ((refine rsl ?_; try exact .intro))
 all_goals simp_all [Node.eq_iff]
structure LRow where
 Handle : Int
 Epoch : Int
 deriving DecidableEq
def encLRow (x : LRow) : List D := [.int .i64 x.Handle, .int .i64 x.Epoch]
def LRow.wf (x : LRow) : Prop := (Lit.int .i64 x.Handle).wf = true /\ (Lit.int .i64 x.Epoch).wf = true /\ True
theorem LRow.eq_iff (x y : LRow) : x = y ↔ x.Handle = y.Handle /\ x.Epoch = y.Epoch := by cases x; cases y; simp
theorem c330 (x y : LRow) : Ctr prog 330 [.agg ((encLRow x).map .dat), .agg ((encLRow y).map .dat)] [] (.one (.dat (.bool (decide (x = y))))) [] := by
 simp only [encLRow, List.map_cons, List.map_nil]
 refine Ctr.bd mixed func330 rfl ?_
 refine evl ?_
 repeat' first
  | ((with_reducible show Abs.Fin _ _ _ _ _ _); refine Fin.nt results330 [] ?_ ?_ ?_ <;> try trivial)
  | with_reducible intro h
  | ((with_reducible show _ /\ _); apply And.intro)
 all_goals try ((refine rsl ?_; try exact .intro))
 all_goals simp_all [LRow.eq_iff]
theorem c275 (l l' : List LRow) (hl : l.length <= maxLen) (hl' : l'.length <= maxLen) : Ctr prog 275 [.one (.dat (.sl 2 (l.map encLRow))), .one (.dat (.sl 2 (l'.map encLRow)))] [] (.one (.dat (.bool (decide (l = l'))))) [] := by
 refine Ctr.bd mixed func275 rfl ?_
 refine evl ?_
 constructor <;> intro h
 ·have hne : l.length ≠ l'.length := by simp at h; omega
  refine Fin.nt results275 [] ?_ ?_ ?_ <;> try trivial
  (refine rsl ?_; try exact .intro)
  symm; rw [decide_eq_false_iff_not]
  intro e; exact hne (by rw [e])
 have hlen : l.length = l'.length := by simp at h; omega
 refine LoopK_intro (fun n s => ∃ i : Nat, i <= l.length /\ n = l.length - i /\ l.take i = l'.take i /\ s = mkSt [(5, .one (.dat (.int .i64 i))), (1, .one (.dat (.sl 2 (l'.map encLRow)))), (0, .one (.dat (.sl 2 (l.map encLRow))))] []) l.length _
  (Ent.weak (ids := []) (by simp) rfl (by simp) ?_ ?_ ?_) ⟨0, by omega, by omega, rfl, rfl⟩ ?_
 ·simp [objsLe, St.obj, find, AObj.renF]
 ·simp [envLe, find, AV.renF, AV.renF1, Leaf.renF]
 ·simp [LowAll, AV.Low, AV.Low1, Leaf.Low, AObj.Low]
 rintro n s ⟨i, hi, rfl, ht, rfl⟩ K hK
 refine evl ?_
 constructor <;> intro h
 ·have hlt : i < l.length := by simpa using h
  have hlt' : i < l'.length := by omega
  refine ⟨⟨by omega, by omega⟩, hlt, ⟨by omega, by omega⟩, hlt', ?_⟩
  simp only [getD_map hlt, getD_map hlt', encLRow, List.map_cons, List.map_nil, List.take_succ_cons, List.take_zero]
  first
   | refine CCallK_intro e330 (fun _ => ⟨trivial, c330 l[i] l'[i]⟩) rfl rfl ?_
   | refine Or.inl (CCallK_intro e330 (fun _ => ⟨trivial, c330 l[i] l'[i]⟩) rfl rfl ?_)
  refine sv0 ?_
  constructor <;> intro h
  ·apply hK
   refine evl ?_
   refine Fin.nt results275 [] ?_ ?_ ?_ <;> try trivial
   (refine rsl ?_; try exact .intro)
   symm; rw [decide_eq_false_iff_not]
   rintro rfl; simp at h
  ·apply hK
   have he : l[i] = l'[i] := by simpa using h
   refine ⟨l.length - (i + 1), _, by omega, Ent.weak (ids := []) (by simp) rfl (by simp) ?_ ?_ ?_, i + 1, by omega, rfl, ?_, rfl⟩
   ·simp [objsLe, St.obj, find, AObj.renF]
   ·simp [envLe, find, AV.renF, AV.renF1, Leaf.renF]
   ·simp [LowAll, AV.Low, AV.Low1, Leaf.Low, AObj.Low]
   ·rw [List.take_succ_eq_append_getElem hlt, List.take_succ_eq_append_getElem hlt', ht, he]
 ·have hge : i = l.length := by simp at h; omega
  subst hge
  apply hK
  refine evl ?_
  refine Fin.nt results275 [] ?_ ?_ ?_ <;> try trivial
  (refine rsl ?_; try exact .intro)
  symm; rw [decide_eq_true_iff]
  rw [List.take_of_length_le (Nat.le_refl _), List.take_of_length_le (by omega)] at ht
  exact ht
def markLRow (k : Int) : LRow := ⟨k, k + 1⟩
def markLRows (k : Int) (n : Nat) : List (List D) := (List.range n).map fun i => encLRow (markLRow (k + 2 * (i : Nat)))
theorem markLRows_length (k : Int) (n : Nat) : (markLRows k n).length = n := by simp [markLRows]
theorem c194 (l : List LRow) (k : Int) (hk0 : 0 <= k) (hk : k + 2 * l.length <= 4611686018427387904) : Ctr prog 194 [.one (.own 0), .one (.dat (.int .i64 k))] [.vec 2 true (l.map encLRow)] (.one (.dat (.int .i64 (k + 2 * l.length)))) [.vec 2 true (markLRows k l.length)] := by
 refine Ctr.of_body mixed func194 rfl (by kernel_rfl) (Nat.le_of_ble_eq_true rfl) (by simp [AV.Clean, AV.Clean1, Leaf.Clean, D.flat]) (by simp [AObj.Sep]) (by simp) ?_ (by simp [AV.Low, AV.Low1, Leaf.Low]) ?_
 ·intro o ho
  have : o = 0 := by simpa using ho
  subst this
  simp [Objs, Compat, markLRows]
 show wpA _ _ _ (FinQ _ _ _ _ _) _
 unfold markLRows
 refine evl ?_
 refine LoopK_intro (fun n s => ∃ i : Nat, i <= l.length /\ n = l.length - i /\ s = mkSt [(5, .one (.dat (.int .i64 i))), (1, .one (.dat (.int .i64 (k + 2 * (i : Nat))))), (0, .one (.own 0))]
   [.vec 2 true ((List.range i).map (fun i => encLRow (markLRow (k + 2 * (i : Nat)))) ++ (l.drop i).map encLRow)]) l.length _
  (Ent.wk [0]) ⟨0, by omega, by omega, rfl⟩ ?_
 rintro n s ⟨i, hi, rfl, rfl⟩ K hK
 have hlen : ((List.range i).map (fun i => encLRow (markLRow (k + 2 * (i : Nat)))) ++ (l.drop i).map encLRow).length = l.length := by simp; omega
 rcases Nat.lt_or_ge i l.length with hlt | hge
 ·have hA : ((List.range i).map (fun i => encLRow (markLRow (k + 2 * (i : Nat))))).length = i := by simp
  have hd : decide ((i : Int) < l.length) = true := by simpa using hlt
  have hw := wrap_succ hlt (show l.length <= maxLen by unfold maxLen; omega)
  have hw1 : IntKind.i64.wrap (k + 2 * (i : Int) + 1) = k + 2 * (i : Int) + 1 := by rw [IntKind.wrap_i64]; omega
  have hw2 : IntKind.i64.wrap (k + 2 * (i : Int) + 1 + 1) = k + 2 * (i : Int) + 1 + 1 := by rw [IntKind.wrap_i64]; omega
  rw [List.drop_eq_getElem_cons hlt, List.map_cons] at hlen ⊢
  generalize hAd : (List.range i).map (fun i => encLRow (markLRow (k + 2 * (i : Nat)))) = A at hA hlen ⊢
  have hl1 : ∀ x, (A ++ x :: (l.drop (i + 1)).map encLRow).length = l.length := fun x => by
   rw [List.length_append, List.length_cons] at hlen ⊢; exact hlen
  simp (maxSteps := 2000000) only [go_sem, seval, hl1, hd, set_mid hA, getD_mid hA, encLRow, hw, hw1, hw2, D.flat]
  repeat' ((with_reducible show _ /\ _); apply And.intro)
  all_goals first
   | (with_reducible exact hlt)
   | omega
   | (exact (by decide : ((3 : Int) = 0 -> False)))
   | skip
  apply hK
  refine ⟨l.length - (i + 1), _, by omega, Ent.weak (ids := [0]) (by simp) rfl (by simp) ?_ ?_ (by simp [objsLe, envLe, find, St.obj, AObj.renF, AV.renF, AV.renF1, Leaf.renF, LowAll, AV.Low, AV.Low1, Leaf.Low, AObj.Low, Ptr.renF, Ptr.Low]), i + 1, by omega, rfl, rfl⟩
  ·rw [List.range_succ, List.map_append, hAd]
   simp [objsLe, envLe, find, St.obj, AObj.renF, AV.renF, AV.renF1, Leaf.renF, LowAll, AV.Low, AV.Low1, Leaf.Low, AObj.Low, Ptr.renF, Ptr.Low]
   rfl
  ·simp [objsLe, envLe, find, St.obj, AObj.renF, AV.renF, AV.renF1, Leaf.renF, LowAll, AV.Low, AV.Low1, Leaf.Low, AObj.Low, Ptr.renF, Ptr.Low]
   omega
 ·have hge' : i = l.length := by omega
  subst hge'
  have hd : decide ((l.length : Int) < l.length) = false := by simp
  refine sv1 ?_
  apply hK
  refine evl ?_
  refine Fin.nt results194 [0] ?_ ?_ ?_ <;> try trivial
  rw [List.drop_length, List.map_nil, List.append_nil]
  simp [objsLe, envLe, find, St.obj, AObj.renF, AV.renF, AV.renF1, Leaf.renF, LowAll, AV.Low, AV.Low1, Leaf.Low, AObj.Low, Ptr.renF, Ptr.Low]
theorem c198 (n : Nat) (k : Int) (hk0 : 0 <= k) (hk : k + 2 * n <= 4611686018427387904) : Ctr prog 198 [.one (.dat (.sl 2 (markLRows k n))), .one (.dat (.int .i64 k))] [] (.one (.dat (.int .i64 (k + 2 * n)))) [] := by
 refine Ctr.bd mixed func198 rfl ?_
 unfold markLRows
 refine evl ?_
 refine LoopK_intro (fun m s => ∃ i : Nat, i <= n /\ m = n - i /\ s = mkSt [(5, .one (.dat (.int .i64 i))), (1, .one (.dat (.int .i64 (k + 2 * (i : Nat))))), (0, .one (.dat (.sl 2 ((List.range n).map fun i => encLRow (markLRow (k + 2 * (i : Nat)))))))] []) n _
  (Ent.wk []) ⟨0, by omega, by omega, rfl⟩ ?_
 rintro m s ⟨i, hi, rfl, rfl⟩ K hK
 have hlen : ((List.range n).map fun i => encLRow (markLRow (k + 2 * (i : Nat)))).length = n := by simp
 rcases Nat.lt_or_ge i n with hlt | hge
 ·have hd : decide ((i : Int) < n) = true := by simpa using hlt
  have hw := wrap_succ hlt (show n <= maxLen by unfold maxLen; omega)
  have hw1 : IntKind.i64.wrap (k + 2 * (i : Int) + 1) = k + 2 * (i : Int) + 1 := by rw [IntKind.wrap_i64]; omega
  have hw2 : IntKind.i64.wrap (k + 2 * (i : Int) + 1 + 1) = k + 2 * (i : Int) + 1 + 1 := by rw [IntKind.wrap_i64]; omega
  have hg : ((List.range n).map fun i => encLRow (markLRow (k + 2 * (i : Nat)))).getD i [] = encLRow (markLRow (k + 2 * (i : Nat))) := getD_range hlt
  generalize ((List.range n).map fun i => encLRow (markLRow (k + 2 * (i : Nat)))) = L at hlen hg hK ⊢
  simp (maxSteps := 2000000) only [go_sem, seval, hlen, hd, hg, encLRow, markLRow, hw, hw1, hw2]
  repeat' first
   | with_reducible intro h
   | ((with_reducible show _ /\ _); apply And.intro)
  all_goals try (first | omega | exact hlt | exact absurd ‹(3 : Int) = 0› (by decide))
  apply hK
  refine ⟨n - (i + 1), _, by omega, Ent.weak (ids := []) (by simp) rfl (by simp) (by simp [objsLe, envLe, find, St.obj, AObj.renF, AV.renF, AV.renF1, Leaf.renF, LowAll, AV.Low, AV.Low1, Leaf.Low, AObj.Low, Ptr.renF, Ptr.Low]) (by simp [objsLe, envLe, find, St.obj, AObj.renF, AV.renF, AV.renF1, Leaf.renF, LowAll, AV.Low, AV.Low1, Leaf.Low, AObj.Low, Ptr.renF, Ptr.Low]; omega) (by simp [objsLe, envLe, find, St.obj, AObj.renF, AV.renF, AV.renF1, Leaf.renF, LowAll, AV.Low, AV.Low1, Leaf.Low, AObj.Low, Ptr.renF, Ptr.Low]), i + 1, by omega, rfl, rfl⟩
 ·have hge' : i = n := by omega
  subst hge'
  have hd : decide ((i : Int) < i) = false := by simp
  refine sv2 ?_
  apply hK
  refine evl ?_
  refine Fin.nt results198 [] ?_ ?_ ?_ <;> try trivial
structure Pin where
 On : Bool
 Epoch : Int
 Marked : Bool
 Seen : Int
 deriving DecidableEq
def encPin (x : Pin) : List D := [.bool x.On, .int .i64 x.Epoch, .bool x.Marked, .int .i64 x.Seen]
def Pin.wf (x : Pin) : Prop := (Lit.int .i64 x.Epoch).wf = true /\ (Lit.int .i64 x.Seen).wf = true /\ True
theorem Pin.eq_iff (x y : Pin) : x = y ↔ x.On = y.On /\ x.Epoch = y.Epoch /\ x.Marked = y.Marked /\ x.Seen = y.Seen := by cases x; cases y; simp
theorem c274 (x y : Pin) : Ctr prog 274 [.agg ((encPin x).map .dat), .agg ((encPin y).map .dat)] [] (.one (.dat (.bool (decide (x = y))))) [] := by
 simp only [encPin, List.map_cons, List.map_nil]
 refine Ctr.bd mixed func274 rfl ?_
 refine evl ?_
 repeat' first
  | ((with_reducible show Abs.Fin _ _ _ _ _ _); refine Fin.nt results274 [] ?_ ?_ ?_ <;> try trivial)
  | with_reducible intro h
  | ((with_reducible show _ /\ _); apply And.intro)
 all_goals try ((refine rsl ?_; try exact .intro))
 all_goals simp_all [Pin.eq_iff]
theorem c182 (l l' : List Pin) (hl : l.length <= maxLen) (hl' : l'.length <= maxLen) : Ctr prog 182 [.one (.dat (.sl 4 (l.map encPin))), .one (.dat (.sl 4 (l'.map encPin)))] [] (.one (.dat (.bool (decide (l = l'))))) [] := by
 refine Ctr.bd mixed func182 rfl ?_
 refine evl ?_
 constructor <;> intro h
 ·have hne : l.length ≠ l'.length := by simp at h; omega
  refine Fin.nt results182 [] ?_ ?_ ?_ <;> try trivial
  (refine rsl ?_; try exact .intro)
  symm; rw [decide_eq_false_iff_not]
  intro e; exact hne (by rw [e])
 have hlen : l.length = l'.length := by simp at h; omega
 refine LoopK_intro (fun n s => ∃ i : Nat, i <= l.length /\ n = l.length - i /\ l.take i = l'.take i /\ s = mkSt [(5, .one (.dat (.int .i64 i))), (1, .one (.dat (.sl 4 (l'.map encPin)))), (0, .one (.dat (.sl 4 (l.map encPin))))] []) l.length _
  (Ent.weak (ids := []) (by simp) rfl (by simp) ?_ ?_ ?_) ⟨0, by omega, by omega, rfl, rfl⟩ ?_
 ·simp [objsLe, St.obj, find, AObj.renF]
 ·simp [envLe, find, AV.renF, AV.renF1, Leaf.renF]
 ·simp [LowAll, AV.Low, AV.Low1, Leaf.Low, AObj.Low]
 rintro n s ⟨i, hi, rfl, ht, rfl⟩ K hK
 refine evl ?_
 constructor <;> intro h
 ·have hlt : i < l.length := by simpa using h
  have hlt' : i < l'.length := by omega
  refine ⟨⟨by omega, by omega⟩, hlt, ⟨by omega, by omega⟩, hlt', ?_⟩
  simp only [getD_map hlt, getD_map hlt', encPin, List.map_cons, List.map_nil, List.take_succ_cons, List.take_zero]
  first
   | refine CCallK_intro e274 (fun _ => ⟨trivial, c274 l[i] l'[i]⟩) rfl rfl ?_
   | refine Or.inl (CCallK_intro e274 (fun _ => ⟨trivial, c274 l[i] l'[i]⟩) rfl rfl ?_)
  refine sv0 ?_
  constructor <;> intro h
  ·apply hK
   refine evl ?_
   refine Fin.nt results182 [] ?_ ?_ ?_ <;> try trivial
   (refine rsl ?_; try exact .intro)
   symm; rw [decide_eq_false_iff_not]
   rintro rfl; simp at h
  ·apply hK
   have he : l[i] = l'[i] := by simpa using h
   refine ⟨l.length - (i + 1), _, by omega, Ent.weak (ids := []) (by simp) rfl (by simp) ?_ ?_ ?_, i + 1, by omega, rfl, ?_, rfl⟩
   ·simp [objsLe, St.obj, find, AObj.renF]
   ·simp [envLe, find, AV.renF, AV.renF1, Leaf.renF]
   ·simp [LowAll, AV.Low, AV.Low1, Leaf.Low, AObj.Low]
   ·rw [List.take_succ_eq_append_getElem hlt, List.take_succ_eq_append_getElem hlt', ht, he]
 ·have hge : i = l.length := by simp at h; omega
  subst hge
  apply hK
  refine evl ?_
  refine Fin.nt results182 [] ?_ ?_ ?_ <;> try trivial
  (refine rsl ?_; try exact .intro)
  symm; rw [decide_eq_true_iff]
  rw [List.take_of_length_le (Nat.le_refl _), List.take_of_length_le (by omega)] at ht
  exact ht
def markPin (k : Int) : Pin := ⟨(k).tmod 3 == 0, k + 1, (k + 1 + 1).tmod 3 == 0, k + 1 + 1 + 1⟩
def markPins (k : Int) (n : Nat) : List (List D) := (List.range n).map fun i => encPin (markPin (k + 4 * (i : Nat)))
theorem markPins_length (k : Int) (n : Nat) : (markPins k n).length = n := by simp [markPins]
theorem c193 (l : List Pin) (k : Int) (hk0 : 0 <= k) (hk : k + 4 * l.length <= 4611686018427387904) : Ctr prog 193 [.one (.own 0), .one (.dat (.int .i64 k))] [.vec 4 true (l.map encPin)] (.one (.dat (.int .i64 (k + 4 * l.length)))) [.vec 4 true (markPins k l.length)] := by
 refine Ctr.of_body mixed func193 rfl (by kernel_rfl) (Nat.le_of_ble_eq_true rfl) (by simp [AV.Clean, AV.Clean1, Leaf.Clean, D.flat]) (by simp [AObj.Sep]) (by simp) ?_ (by simp [AV.Low, AV.Low1, Leaf.Low]) ?_
 ·intro o ho
  have : o = 0 := by simpa using ho
  subst this
  simp [Objs, Compat, markPins]
 show wpA _ _ _ (FinQ _ _ _ _ _) _
 unfold markPins
 refine evl ?_
 refine LoopK_intro (fun n s => ∃ i : Nat, i <= l.length /\ n = l.length - i /\ s = mkSt [(5, .one (.dat (.int .i64 i))), (1, .one (.dat (.int .i64 (k + 4 * (i : Nat))))), (0, .one (.own 0))]
   [.vec 4 true ((List.range i).map (fun i => encPin (markPin (k + 4 * (i : Nat)))) ++ (l.drop i).map encPin)]) l.length _
  (Ent.wk [0]) ⟨0, by omega, by omega, rfl⟩ ?_
 rintro n s ⟨i, hi, rfl, rfl⟩ K hK
 have hlen : ((List.range i).map (fun i => encPin (markPin (k + 4 * (i : Nat)))) ++ (l.drop i).map encPin).length = l.length := by simp; omega
 rcases Nat.lt_or_ge i l.length with hlt | hge
 ·have hA : ((List.range i).map (fun i => encPin (markPin (k + 4 * (i : Nat))))).length = i := by simp
  have hd : decide ((i : Int) < l.length) = true := by simpa using hlt
  have hw := wrap_succ hlt (show l.length <= maxLen by unfold maxLen; omega)
  have hw1 : IntKind.i64.wrap (k + 4 * (i : Int) + 1) = k + 4 * (i : Int) + 1 := by rw [IntKind.wrap_i64]; omega
  have hw2 : IntKind.i64.wrap (k + 4 * (i : Int) + 1 + 1) = k + 4 * (i : Int) + 1 + 1 := by rw [IntKind.wrap_i64]; omega
  have hw3 : IntKind.i64.wrap (k + 4 * (i : Int) + 1 + 1 + 1) = k + 4 * (i : Int) + 1 + 1 + 1 := by rw [IntKind.wrap_i64]; omega
  have hw4 : IntKind.i64.wrap (k + 4 * (i : Int) + 1 + 1 + 1 + 1) = k + 4 * (i : Int) + 1 + 1 + 1 + 1 := by rw [IntKind.wrap_i64]; omega
  rw [List.drop_eq_getElem_cons hlt, List.map_cons] at hlen ⊢
  generalize hAd : (List.range i).map (fun i => encPin (markPin (k + 4 * (i : Nat)))) = A at hA hlen ⊢
  have hl1 : ∀ x, (A ++ x :: (l.drop (i + 1)).map encPin).length = l.length := fun x => by
   rw [List.length_append, List.length_cons] at hlen ⊢; exact hlen
  simp (maxSteps := 2000000) only [go_sem, seval, hl1, hd, set_mid hA, getD_mid hA, encPin, hw, hw1, hw2, hw3, hw4, D.flat]
  repeat' ((with_reducible show _ /\ _); apply And.intro)
  all_goals first
   | (with_reducible exact hlt)
   | omega
   | (exact (by decide : ((3 : Int) = 0 -> False)))
   | skip
  apply hK
  refine ⟨l.length - (i + 1), _, by omega, Ent.weak (ids := [0]) (by simp) rfl (by simp) ?_ ?_ (by simp [objsLe, envLe, find, St.obj, AObj.renF, AV.renF, AV.renF1, Leaf.renF, LowAll, AV.Low, AV.Low1, Leaf.Low, AObj.Low, Ptr.renF, Ptr.Low]), i + 1, by omega, rfl, rfl⟩
  ·rw [List.range_succ, List.map_append, hAd]
   simp [objsLe, envLe, find, St.obj, AObj.renF, AV.renF, AV.renF1, Leaf.renF, LowAll, AV.Low, AV.Low1, Leaf.Low, AObj.Low, Ptr.renF, Ptr.Low]
   rfl
  ·simp [objsLe, envLe, find, St.obj, AObj.renF, AV.renF, AV.renF1, Leaf.renF, LowAll, AV.Low, AV.Low1, Leaf.Low, AObj.Low, Ptr.renF, Ptr.Low]
   omega
 ·have hge' : i = l.length := by omega
  subst hge'
  have hd : decide ((l.length : Int) < l.length) = false := by simp
  refine sv1 ?_
  apply hK
  refine evl ?_
  refine Fin.nt results193 [0] ?_ ?_ ?_ <;> try trivial
  rw [List.drop_length, List.map_nil, List.append_nil]
  simp [objsLe, envLe, find, St.obj, AObj.renF, AV.renF, AV.renF1, Leaf.renF, LowAll, AV.Low, AV.Low1, Leaf.Low, AObj.Low, Ptr.renF, Ptr.Low]
theorem c197 (n : Nat) (k : Int) (hk0 : 0 <= k) (hk : k + 4 * n <= 4611686018427387904) : Ctr prog 197 [.one (.dat (.sl 4 (markPins k n))), .one (.dat (.int .i64 k))] [] (.one (.dat (.int .i64 (k + 4 * n)))) [] := by
 refine Ctr.bd mixed func197 rfl ?_
 unfold markPins
 refine evl ?_
 refine LoopK_intro (fun m s => ∃ i : Nat, i <= n /\ m = n - i /\ s = mkSt [(5, .one (.dat (.int .i64 i))), (1, .one (.dat (.int .i64 (k + 4 * (i : Nat))))), (0, .one (.dat (.sl 4 ((List.range n).map fun i => encPin (markPin (k + 4 * (i : Nat)))))))] []) n _
  (Ent.wk []) ⟨0, by omega, by omega, rfl⟩ ?_
 rintro m s ⟨i, hi, rfl, rfl⟩ K hK
 have hlen : ((List.range n).map fun i => encPin (markPin (k + 4 * (i : Nat)))).length = n := by simp
 rcases Nat.lt_or_ge i n with hlt | hge
 ·have hd : decide ((i : Int) < n) = true := by simpa using hlt
  have hw := wrap_succ hlt (show n <= maxLen by unfold maxLen; omega)
  have hw1 : IntKind.i64.wrap (k + 4 * (i : Int) + 1) = k + 4 * (i : Int) + 1 := by rw [IntKind.wrap_i64]; omega
  have hw2 : IntKind.i64.wrap (k + 4 * (i : Int) + 1 + 1) = k + 4 * (i : Int) + 1 + 1 := by rw [IntKind.wrap_i64]; omega
  have hw3 : IntKind.i64.wrap (k + 4 * (i : Int) + 1 + 1 + 1) = k + 4 * (i : Int) + 1 + 1 + 1 := by rw [IntKind.wrap_i64]; omega
  have hw4 : IntKind.i64.wrap (k + 4 * (i : Int) + 1 + 1 + 1 + 1) = k + 4 * (i : Int) + 1 + 1 + 1 + 1 := by rw [IntKind.wrap_i64]; omega
  have hg : ((List.range n).map fun i => encPin (markPin (k + 4 * (i : Nat)))).getD i [] = encPin (markPin (k + 4 * (i : Nat))) := getD_range hlt
  generalize ((List.range n).map fun i => encPin (markPin (k + 4 * (i : Nat)))) = L at hlen hg hK ⊢
  simp (maxSteps := 2000000) only [go_sem, seval, hlen, hd, hg, encPin, markPin, hw, hw1, hw2, hw3, hw4]
  repeat' first
   | with_reducible intro h
   | ((with_reducible show _ /\ _); apply And.intro)
  all_goals try (first | omega | exact hlt | exact absurd ‹(3 : Int) = 0› (by decide))
  apply hK
  refine ⟨n - (i + 1), _, by omega, Ent.weak (ids := []) (by simp) rfl (by simp) (by simp [objsLe, envLe, find, St.obj, AObj.renF, AV.renF, AV.renF1, Leaf.renF, LowAll, AV.Low, AV.Low1, Leaf.Low, AObj.Low, Ptr.renF, Ptr.Low]) (by simp [objsLe, envLe, find, St.obj, AObj.renF, AV.renF, AV.renF1, Leaf.renF, LowAll, AV.Low, AV.Low1, Leaf.Low, AObj.Low, Ptr.renF, Ptr.Low]; omega) (by simp [objsLe, envLe, find, St.obj, AObj.renF, AV.renF, AV.renF1, Leaf.renF, LowAll, AV.Low, AV.Low1, Leaf.Low, AObj.Low, Ptr.renF, Ptr.Low]), i + 1, by omega, rfl, rfl⟩
 ·have hge' : i = n := by omega
  subst hge'
  have hd : decide ((i : Int) < i) = false := by simp
  refine sv2 ?_
  apply hK
  refine evl ?_
  refine Fin.nt results197 [] ?_ ?_ ?_ <;> try trivial
structure Res where
 Is : Bool
 Val : Int
 deriving DecidableEq
def encRes (x : Res) : List D := [.bool x.Is, .int .i64 x.Val]
def Res.wf (x : Res) : Prop := (Lit.int .i64 x.Val).wf = true /\ True
theorem Res.eq_iff (x y : Res) : x = y ↔ x.Is = y.Is /\ x.Val = y.Val := by cases x; cases y; simp
theorem c278 (x y : Res) : Ctr prog 278 [.agg ((encRes x).map .dat), .agg ((encRes y).map .dat)] [] (.one (.dat (.bool (decide (x = y))))) [] := by
 simp only [encRes, List.map_cons, List.map_nil]
 refine Ctr.bd mixed func278 rfl ?_
 refine evl ?_
 repeat' first
  | ((with_reducible show Abs.Fin _ _ _ _ _ _); refine Fin.nt results278 [] ?_ ?_ ?_ <;> try trivial)
  | with_reducible intro h
  | ((with_reducible show _ /\ _); apply And.intro)
 all_goals try ((refine rsl ?_; try exact .intro))
 all_goals simp_all [Res.eq_iff]
theorem c189 (l l' : List Res) (hl : l.length <= maxLen) (hl' : l'.length <= maxLen) : Ctr prog 189 [.one (.dat (.sl 2 (l.map encRes))), .one (.dat (.sl 2 (l'.map encRes)))] [] (.one (.dat (.bool (decide (l = l'))))) [] := by
 refine Ctr.bd mixed func189 rfl ?_
 refine evl ?_
 constructor <;> intro h
 ·have hne : l.length ≠ l'.length := by simp at h; omega
  refine Fin.nt results189 [] ?_ ?_ ?_ <;> try trivial
  (refine rsl ?_; try exact .intro)
  symm; rw [decide_eq_false_iff_not]
  intro e; exact hne (by rw [e])
 have hlen : l.length = l'.length := by simp at h; omega
 refine LoopK_intro (fun n s => ∃ i : Nat, i <= l.length /\ n = l.length - i /\ l.take i = l'.take i /\ s = mkSt [(5, .one (.dat (.int .i64 i))), (1, .one (.dat (.sl 2 (l'.map encRes)))), (0, .one (.dat (.sl 2 (l.map encRes))))] []) l.length _
  (Ent.weak (ids := []) (by simp) rfl (by simp) ?_ ?_ ?_) ⟨0, by omega, by omega, rfl, rfl⟩ ?_
 ·simp [objsLe, St.obj, find, AObj.renF]
 ·simp [envLe, find, AV.renF, AV.renF1, Leaf.renF]
 ·simp [LowAll, AV.Low, AV.Low1, Leaf.Low, AObj.Low]
 rintro n s ⟨i, hi, rfl, ht, rfl⟩ K hK
 refine evl ?_
 constructor <;> intro h
 ·have hlt : i < l.length := by simpa using h
  have hlt' : i < l'.length := by omega
  refine ⟨⟨by omega, by omega⟩, hlt, ⟨by omega, by omega⟩, hlt', ?_⟩
  simp only [getD_map hlt, getD_map hlt', encRes, List.map_cons, List.map_nil, List.take_succ_cons, List.take_zero]
  first
   | refine CCallK_intro e278 (fun _ => ⟨trivial, c278 l[i] l'[i]⟩) rfl rfl ?_
   | refine Or.inl (CCallK_intro e278 (fun _ => ⟨trivial, c278 l[i] l'[i]⟩) rfl rfl ?_)
  refine sv0 ?_
  constructor <;> intro h
  ·apply hK
   refine evl ?_
   refine Fin.nt results189 [] ?_ ?_ ?_ <;> try trivial
   (refine rsl ?_; try exact .intro)
   symm; rw [decide_eq_false_iff_not]
   rintro rfl; simp at h
  ·apply hK
   have he : l[i] = l'[i] := by simpa using h
   refine ⟨l.length - (i + 1), _, by omega, Ent.weak (ids := []) (by simp) rfl (by simp) ?_ ?_ ?_, i + 1, by omega, rfl, ?_, rfl⟩
   ·simp [objsLe, St.obj, find, AObj.renF]
   ·simp [envLe, find, AV.renF, AV.renF1, Leaf.renF]
   ·simp [LowAll, AV.Low, AV.Low1, Leaf.Low, AObj.Low]
   ·rw [List.take_succ_eq_append_getElem hlt, List.take_succ_eq_append_getElem hlt', ht, he]
 ·have hge : i = l.length := by simp at h; omega
  subst hge
  apply hK
  refine evl ?_
  refine Fin.nt results189 [] ?_ ?_ ?_ <;> try trivial
  (refine rsl ?_; try exact .intro)
  symm; rw [decide_eq_true_iff]
  rw [List.take_of_length_le (Nat.le_refl _), List.take_of_length_le (by omega)] at ht
  exact ht
def markRes (k : Int) : Res := ⟨(k).tmod 3 == 0, k + 1⟩
def markRess (k : Int) (n : Nat) : List (List D) := (List.range n).map fun i => encRes (markRes (k + 2 * (i : Nat)))
theorem markRess_length (k : Int) (n : Nat) : (markRess k n).length = n := by simp [markRess]
theorem c106 (l : List Res) (k : Int) (hk0 : 0 <= k) (hk : k + 2 * l.length <= 4611686018427387904) : Ctr prog 106 [.one (.own 0), .one (.dat (.int .i64 k))] [.vec 2 true (l.map encRes)] (.one (.dat (.int .i64 (k + 2 * l.length)))) [.vec 2 true (markRess k l.length)] := by
 refine Ctr.of_body mixed func106 rfl (by kernel_rfl) (Nat.le_of_ble_eq_true rfl) (by simp [AV.Clean, AV.Clean1, Leaf.Clean, D.flat]) (by simp [AObj.Sep]) (by simp) ?_ (by simp [AV.Low, AV.Low1, Leaf.Low]) ?_
 ·intro o ho
  have : o = 0 := by simpa using ho
  subst this
  simp [Objs, Compat, markRess]
 show wpA _ _ _ (FinQ _ _ _ _ _) _
 unfold markRess
 refine evl ?_
 refine LoopK_intro (fun n s => ∃ i : Nat, i <= l.length /\ n = l.length - i /\ s = mkSt [(5, .one (.dat (.int .i64 i))), (1, .one (.dat (.int .i64 (k + 2 * (i : Nat))))), (0, .one (.own 0))]
   [.vec 2 true ((List.range i).map (fun i => encRes (markRes (k + 2 * (i : Nat)))) ++ (l.drop i).map encRes)]) l.length _
  (Ent.wk [0]) ⟨0, by omega, by omega, rfl⟩ ?_
 rintro n s ⟨i, hi, rfl, rfl⟩ K hK
 have hlen : ((List.range i).map (fun i => encRes (markRes (k + 2 * (i : Nat)))) ++ (l.drop i).map encRes).length = l.length := by simp; omega
 rcases Nat.lt_or_ge i l.length with hlt | hge
 ·have hA : ((List.range i).map (fun i => encRes (markRes (k + 2 * (i : Nat))))).length = i := by simp
  have hd : decide ((i : Int) < l.length) = true := by simpa using hlt
  have hw := wrap_succ hlt (show l.length <= maxLen by unfold maxLen; omega)
  have hw1 : IntKind.i64.wrap (k + 2 * (i : Int) + 1) = k + 2 * (i : Int) + 1 := by rw [IntKind.wrap_i64]; omega
  have hw2 : IntKind.i64.wrap (k + 2 * (i : Int) + 1 + 1) = k + 2 * (i : Int) + 1 + 1 := by rw [IntKind.wrap_i64]; omega
  rw [List.drop_eq_getElem_cons hlt, List.map_cons] at hlen ⊢
  generalize hAd : (List.range i).map (fun i => encRes (markRes (k + 2 * (i : Nat)))) = A at hA hlen ⊢
  have hl1 : ∀ x, (A ++ x :: (l.drop (i + 1)).map encRes).length = l.length := fun x => by
   rw [List.length_append, List.length_cons] at hlen ⊢; exact hlen
  simp (maxSteps := 2000000) only [go_sem, seval, hl1, hd, set_mid hA, getD_mid hA, encRes, hw, hw1, hw2, D.flat]
  repeat' ((with_reducible show _ /\ _); apply And.intro)
  all_goals first
   | (with_reducible exact hlt)
   | omega
   | (exact (by decide : ((3 : Int) = 0 -> False)))
   | skip
  apply hK
  refine ⟨l.length - (i + 1), _, by omega, Ent.weak (ids := [0]) (by simp) rfl (by simp) ?_ ?_ (by simp [objsLe, envLe, find, St.obj, AObj.renF, AV.renF, AV.renF1, Leaf.renF, LowAll, AV.Low, AV.Low1, Leaf.Low, AObj.Low, Ptr.renF, Ptr.Low]), i + 1, by omega, rfl, rfl⟩
  ·rw [List.range_succ, List.map_append, hAd]
   simp [objsLe, envLe, find, St.obj, AObj.renF, AV.renF, AV.renF1, Leaf.renF, LowAll, AV.Low, AV.Low1, Leaf.Low, AObj.Low, Ptr.renF, Ptr.Low]
   rfl
  ·simp [objsLe, envLe, find, St.obj, AObj.renF, AV.renF, AV.renF1, Leaf.renF, LowAll, AV.Low, AV.Low1, Leaf.Low, AObj.Low, Ptr.renF, Ptr.Low]
   omega
 ·have hge' : i = l.length := by omega
  subst hge'
  have hd : decide ((l.length : Int) < l.length) = false := by simp
  refine sv1 ?_
  apply hK
  refine evl ?_
  refine Fin.nt results106 [0] ?_ ?_ ?_ <;> try trivial
  rw [List.drop_length, List.map_nil, List.append_nil]
  simp [objsLe, envLe, find, St.obj, AObj.renF, AV.renF, AV.renF1, Leaf.renF, LowAll, AV.Low, AV.Low1, Leaf.Low, AObj.Low, Ptr.renF, Ptr.Low]
theorem c114 (n : Nat) (k : Int) (hk0 : 0 <= k) (hk : k + 2 * n <= 4611686018427387904) : Ctr prog 114 [.one (.dat (.sl 2 (markRess k n))), .one (.dat (.int .i64 k))] [] (.one (.dat (.int .i64 (k + 2 * n)))) [] := by
 refine Ctr.bd mixed func114 rfl ?_
 unfold markRess
 refine evl ?_
 refine LoopK_intro (fun m s => ∃ i : Nat, i <= n /\ m = n - i /\ s = mkSt [(5, .one (.dat (.int .i64 i))), (1, .one (.dat (.int .i64 (k + 2 * (i : Nat))))), (0, .one (.dat (.sl 2 ((List.range n).map fun i => encRes (markRes (k + 2 * (i : Nat)))))))] []) n _
  (Ent.wk []) ⟨0, by omega, by omega, rfl⟩ ?_
 rintro m s ⟨i, hi, rfl, rfl⟩ K hK
 have hlen : ((List.range n).map fun i => encRes (markRes (k + 2 * (i : Nat)))).length = n := by simp
 rcases Nat.lt_or_ge i n with hlt | hge
 ·have hd : decide ((i : Int) < n) = true := by simpa using hlt
  have hw := wrap_succ hlt (show n <= maxLen by unfold maxLen; omega)
  have hw1 : IntKind.i64.wrap (k + 2 * (i : Int) + 1) = k + 2 * (i : Int) + 1 := by rw [IntKind.wrap_i64]; omega
  have hw2 : IntKind.i64.wrap (k + 2 * (i : Int) + 1 + 1) = k + 2 * (i : Int) + 1 + 1 := by rw [IntKind.wrap_i64]; omega
  have hg : ((List.range n).map fun i => encRes (markRes (k + 2 * (i : Nat)))).getD i [] = encRes (markRes (k + 2 * (i : Nat))) := getD_range hlt
  generalize ((List.range n).map fun i => encRes (markRes (k + 2 * (i : Nat)))) = L at hlen hg hK ⊢
  simp (maxSteps := 2000000) only [go_sem, seval, hlen, hd, hg, encRes, markRes, hw, hw1, hw2]
  repeat' first
   | with_reducible intro h
   | ((with_reducible show _ /\ _); apply And.intro)
  all_goals try (first | omega | exact hlt | exact absurd ‹(3 : Int) = 0› (by decide))
  apply hK
  refine ⟨n - (i + 1), _, by omega, Ent.weak (ids := []) (by simp) rfl (by simp) (by simp [objsLe, envLe, find, St.obj, AObj.renF, AV.renF, AV.renF1, Leaf.renF, LowAll, AV.Low, AV.Low1, Leaf.Low, AObj.Low, Ptr.renF, Ptr.Low]) (by simp [objsLe, envLe, find, St.obj, AObj.renF, AV.renF, AV.renF1, Leaf.renF, LowAll, AV.Low, AV.Low1, Leaf.Low, AObj.Low, Ptr.renF, Ptr.Low]; omega) (by simp [objsLe, envLe, find, St.obj, AObj.renF, AV.renF, AV.renF1, Leaf.renF, LowAll, AV.Low, AV.Low1, Leaf.Low, AObj.Low, Ptr.renF, Ptr.Low]), i + 1, by omega, rfl, rfl⟩
 ·have hge' : i = n := by omega
  subst hge'
  have hd : decide ((i : Int) < i) = false := by simp
  refine sv2 ?_
  apply hK
  refine evl ?_
  refine Fin.nt results114 [] ?_ ?_ ?_ <;> try trivial
end Go.Proofs.YtkmmgklnoagedaaGreat.Mod
