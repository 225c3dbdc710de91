/- Contracts: Fam. -/
import Derived.Test.YtmgemgeeoconbaaDoorRows
import Derived.Test.YtmgemgeeoconbaaDoorGTy
import Derived.Test.YtmgemgeeoconbaaDoorAbsTac
import Derived.Test.YtmgemgeeoconbaaDoorAbsData
import Derived.Test.YtmgemgeeoconbaaDoorGBase
import Derived.WalkKit
import Derived.ProofKit
import Derived.OpenShut
namespace Go.Proofs.YtmgemgeeoconbaaDoor.Mod
open Go.Proofs.Tryd Go.Abs Go.Proofs.YtmgemgeeoconbaaDoor.Ty Go.ChangeShapes Go.WideShapes Go.ChangeAt Go.RowKit
set_option linter.unusedSimpArgs false
set_option linter.unusedVariables false
set_option maxHeartbeats 8000000
set_option maxRecDepth 100000
structure Cmd where
 Kind : Int
 Key : Int
 Val : Int
 deriving DecidableEq
def encCmd (x : Cmd) : List D := [.int .i64 x.Kind, .int .i64 x.Key, .int .i64 x.Val]
def Cmd.wf (x : Cmd) : Prop := (Lit.int .i64 x.Kind).wf = true /\ (Lit.int .i64 x.Key).wf = true /\ (Lit.int .i64 x.Val).wf = true /\ True
theorem Cmd.eq_iff (x y : Cmd) : x = y ↔ x.Kind = y.Kind /\ x.Key = y.Key /\ x.Val = y.Val := by cases x; cases y; simp
theorem c22 (x y : Cmd) : Ctr prog 22 [.agg ((encCmd x).map .dat), .agg ((encCmd y).map .dat)] [] (.one (.dat (.bool (decide (x = y))))) [] := by
 simp only [encCmd, List.map_cons, List.map_nil]
 refine Ctr.bd mixed func22 rfl ?_
 refine evl ?_
 repeat' first
  | ((with_reducible show Abs.Fin _ _ _ _ _ _); refine Fin.nt results22 [] ?_ ?_ ?_ <;> try trivial)
  | with_reducible intro h
  | ((with_reducible show _ /\ _); apply And.intro)
 all_goals try ((refine rsl ?_; try exact .intro))
 all_goals simp_all [Cmd.eq_iff]
theorem c44 (l l' : List Cmd) (hl : l.length <= maxLen) (hl' : l'.length <= maxLen) : Ctr prog 44 [.one (.dat (.sl 3 (l.map encCmd))), .one (.dat (.sl 3 (l'.map encCmd)))] [] (.one (.dat (.bool (decide (l = l'))))) [] := by
 refine Ctr.bd mixed func44 rfl ?_
 refine evl ?_
 constructor <;> intro h
 ·have hne : l.length ≠ l'.length := by simp at h; omega
  refine Fin.nt results44 [] ?_ ?_ ?_ <;> try trivial
  (refine rsl ?_; try exact .intro)
  symm; rw [decide_eq_false_iff_not]
  intro e; exact hne (by rw [e])
 have hlen : l.length = l'.length := by simp at h; omega
 refine LoopK_intro (fun n s => ∃ i : Nat, i <= l.length /\ n = l.length - i /\ l.take i = l'.take i /\ s = mkSt [(5, .one (.dat (.int .i64 i))), (1, .one (.dat (.sl 3 (l'.map encCmd)))), (0, .one (.dat (.sl 3 (l.map encCmd))))] []) l.length _
  (Ent.weak (ids := []) (by simp) rfl (by simp) ?_ ?_ ?_) ⟨0, by omega, by omega, rfl, rfl⟩ ?_
 ·simp [objsLe, St.obj, find, AObj.renF]
 ·simp [envLe, find, AV.renF, AV.renF1, Leaf.renF]
 ·simp [LowAll, AV.Low, AV.Low1, Leaf.Low, AObj.Low]
 rintro n s ⟨i, hi, rfl, ht, rfl⟩ K hK
 refine evl ?_
 constructor <;> intro h
 ·have hlt : i < l.length := by simpa using h
  have hlt' : i < l'.length := by omega
  refine ⟨⟨by omega, by omega⟩, hlt, ⟨by omega, by omega⟩, hlt', ?_⟩
  simp only [getD_map hlt, getD_map hlt', encCmd, List.map_cons, List.map_nil, List.take_succ_cons, List.take_zero]
  first
   | refine CCallK_intro e22 (fun _ => ⟨trivial, c22 l[i] l'[i]⟩) rfl rfl ?_
   | refine Or.inl (CCallK_intro e22 (fun _ => ⟨trivial, c22 l[i] l'[i]⟩) rfl rfl ?_)
  simp (maxSteps := 2000000) only [go_sem, seval, wrap_succ hlt hl]
  constructor <;> intro h
  ·apply hK
   refine evl ?_
   refine Fin.nt results44 [] ?_ ?_ ?_ <;> try trivial
   (refine rsl ?_; try exact .intro)
   symm; rw [decide_eq_false_iff_not]
   rintro rfl; simp at h
  ·apply hK
   have he : l[i] = l'[i] := by simpa using h
   refine ⟨l.length - (i + 1), _, by omega, Ent.weak (ids := []) (by simp) rfl (by simp) ?_ ?_ ?_, i + 1, by omega, rfl, ?_, rfl⟩
   ·simp [objsLe, St.obj, find, AObj.renF]
   ·simp [envLe, find, AV.renF, AV.renF1, Leaf.renF]
   ·simp [LowAll, AV.Low, AV.Low1, Leaf.Low, AObj.Low]
   ·rw [List.take_succ_eq_append_getElem hlt, List.take_succ_eq_append_getElem hlt', ht, he]
 ·have hge : i = l.length := by simp at h; omega
  subst hge
  apply hK
  refine evl ?_
  refine Fin.nt results44 [] ?_ ?_ ?_ <;> try trivial
  (refine rsl ?_; try exact .intro)
  symm; rw [decide_eq_true_iff]
  rw [List.take_of_length_le (Nat.le_refl _), List.take_of_length_le (by omega)] at ht
  exact ht
def markCmd (k : Int) : Cmd := ⟨k, k + 1, k + 1 + 1⟩
def markCmds (k : Int) (n : Nat) : List (List D) := (List.range n).map fun i => encCmd (markCmd (k + 3 * (i : Nat)))
theorem markCmds_length (k : Int) (n : Nat) : (markCmds k n).length = n := by simp [markCmds]
theorem c51 (l : List Cmd) (k : Int) (hk0 : 0 <= k) (hk : k + 3 * l.length <= 4611686018427387904) : Ctr prog 51 [.one (.own 0), .one (.dat (.int .i64 k))] [.vec 3 true (l.map encCmd)] (.one (.dat (.int .i64 (k + 3 * l.length)))) [.vec 3 true (markCmds k l.length)] := by
 refine Ctr.of_body mixed func51 rfl (by kernel_rfl) (Nat.le_of_ble_eq_true rfl) (by simp [AV.Clean, AV.Clean1, Leaf.Clean, D.flat]) (by simp [AObj.Sep]) (by simp) ?_ (by simp [AV.Low, AV.Low1, Leaf.Low]) ?_
 ·intro o ho
  have : o = 0 := by simpa using ho
  subst this
  simp [Objs, Compat, markCmds]
 show wpA _ _ _ (FinQ _ _ _ _ _) _
 unfold markCmds
 refine evl ?_
 refine LoopK_intro (fun n s => ∃ i : Nat, i <= l.length /\ n = l.length - i /\ s = mkSt [(5, .one (.dat (.int .i64 i))), (1, .one (.dat (.int .i64 (k + 3 * (i : Nat))))), (0, .one (.own 0))]
   [.vec 3 true ((List.range i).map (fun i => encCmd (markCmd (k + 3 * (i : Nat)))) ++ (l.drop i).map encCmd)]) l.length _
  (Ent.wk [0]) ⟨0, by omega, by omega, rfl⟩ ?_
 rintro n s ⟨i, hi, rfl, rfl⟩ K hK
 have hlen : ((List.range i).map (fun i => encCmd (markCmd (k + 3 * (i : Nat)))) ++ (l.drop i).map encCmd).length = l.length := by simp; omega
 rcases Nat.lt_or_ge i l.length with hlt | hge
 ·have hA : ((List.range i).map (fun i => encCmd (markCmd (k + 3 * (i : Nat))))).length = i := by simp
  have hd : decide ((i : Int) < l.length) = true := by simpa using hlt
  have hw := wrap_succ hlt (show l.length <= maxLen by unfold maxLen; omega)
  have hw1 : IntKind.i64.wrap (k + 3 * (i : Int) + 1) = k + 3 * (i : Int) + 1 := by rw [IntKind.wrap_i64]; omega
  have hw2 : IntKind.i64.wrap (k + 3 * (i : Int) + 1 + 1) = k + 3 * (i : Int) + 1 + 1 := by rw [IntKind.wrap_i64]; omega
  have hw3 : IntKind.i64.wrap (k + 3 * (i : Int) + 1 + 1 + 1) = k + 3 * (i : Int) + 1 + 1 + 1 := by rw [IntKind.wrap_i64]; omega
  rw [List.drop_eq_getElem_cons hlt, List.map_cons] at hlen ⊢
  generalize hAd : (List.range i).map (fun i => encCmd (markCmd (k + 3 * (i : Nat)))) = A at hA hlen ⊢
  have hl1 : ∀ x, (A ++ x :: (l.drop (i + 1)).map encCmd).length = l.length := fun x => by
   rw [List.length_append, List.length_cons] at hlen ⊢; exact hlen
  simp (maxSteps := 2000000) only [go_sem, seval, hl1, hd, set_mid hA, getD_mid hA, encCmd, hw, hw1, hw2, hw3, D.flat]
  repeat' ((with_reducible show _ /\ _); apply And.intro)
  all_goals first
   | (with_reducible exact hlt)
   | omega
   | (exact (by decide : ((3 : Int) = 0 -> False)))
   | skip
  apply hK
  refine ⟨l.length - (i + 1), _, by omega, Ent.weak (ids := [0]) (by simp) rfl (by simp) ?_ ?_ (by simp [objsLe, envLe, find, St.obj, AObj.renF, AV.renF, AV.renF1, Leaf.renF, LowAll, AV.Low, AV.Low1, Leaf.Low, AObj.Low, Ptr.renF, Ptr.Low]), i + 1, by omega, rfl, rfl⟩
  ·rw [List.range_succ, List.map_append, hAd]
   simp [objsLe, envLe, find, St.obj, AObj.renF, AV.renF, AV.renF1, Leaf.renF, LowAll, AV.Low, AV.Low1, Leaf.Low, AObj.Low, Ptr.renF, Ptr.Low]
   rfl
  ·simp [objsLe, envLe, find, St.obj, AObj.renF, AV.renF, AV.renF1, Leaf.renF, LowAll, AV.Low, AV.Low1, Leaf.Low, AObj.Low, Ptr.renF, Ptr.Low]
   omega
 ·have hge' : i = l.length := by omega
  subst hge'
  have hd : decide ((l.length : Int) < l.length) = false := by simp
  simp (maxSteps := 2000000) only [go_sem, seval, hlen, hd]
  apply hK
  refine evl ?_
  refine Fin.nt results51 [0] ?_ ?_ ?_ <;> try trivial
  rw [List.drop_length, List.map_nil, List.append_nil]
  simp [objsLe, envLe, find, St.obj, AObj.renF, AV.renF, AV.renF1, Leaf.renF, LowAll, AV.Low, AV.Low1, Leaf.Low, AObj.Low, Ptr.renF, Ptr.Low]
theorem c52 (n : Nat) (k : Int) (hk0 : 0 <= k) (hk : k + 3 * n <= 4611686018427387904) : Ctr prog 52 [.one (.dat (.sl 3 (markCmds k n))), .one (.dat (.int .i64 k))] [] (.one (.dat (.int .i64 (k + 3 * n)))) [] := by
 refine Ctr.bd mixed func52 rfl ?_
 unfold markCmds
 refine evl ?_
 refine LoopK_intro (fun m s => ∃ i : Nat, i <= n /\ m = n - i /\ s = mkSt [(5, .one (.dat (.int .i64 i))), (1, .one (.dat (.int .i64 (k + 3 * (i : Nat))))), (0, .one (.dat (.sl 3 ((List.range n).map fun i => encCmd (markCmd (k + 3 * (i : Nat)))))))] []) n _
  (Ent.wk []) ⟨0, by omega, by omega, rfl⟩ ?_
 rintro m s ⟨i, hi, rfl, rfl⟩ K hK
 have hlen : ((List.range n).map fun i => encCmd (markCmd (k + 3 * (i : Nat)))).length = n := by simp
 rcases Nat.lt_or_ge i n with hlt | hge
 ·have hd : decide ((i : Int) < n) = true := by simpa using hlt
  have hw := wrap_succ hlt (show n <= maxLen by unfold maxLen; omega)
  have hw1 : IntKind.i64.wrap (k + 3 * (i : Int) + 1) = k + 3 * (i : Int) + 1 := by rw [IntKind.wrap_i64]; omega
  have hw2 : IntKind.i64.wrap (k + 3 * (i : Int) + 1 + 1) = k + 3 * (i : Int) + 1 + 1 := by rw [IntKind.wrap_i64]; omega
  have hw3 : IntKind.i64.wrap (k + 3 * (i : Int) + 1 + 1 + 1) = k + 3 * (i : Int) + 1 + 1 + 1 := by rw [IntKind.wrap_i64]; omega
  have hg : ((List.range n).map fun i => encCmd (markCmd (k + 3 * (i : Nat)))).getD i [] = encCmd (markCmd (k + 3 * (i : Nat))) := getD_range hlt
  generalize ((List.range n).map fun i => encCmd (markCmd (k + 3 * (i : Nat)))) = L at hlen hg hK ⊢
  simp (maxSteps := 2000000) only [go_sem, seval, hlen, hd, hg, encCmd, markCmd, hw, hw1, hw2, hw3]
  repeat' first
   | with_reducible intro h
   | ((with_reducible show _ /\ _); apply And.intro)
  all_goals try (first | omega | exact hlt | exact absurd ‹(3 : Int) = 0› (by decide))
  apply hK
  refine ⟨n - (i + 1), _, by omega, Ent.weak (ids := []) (by simp) rfl (by simp) (by simp [objsLe, envLe, find, St.obj, AObj.renF, AV.renF, AV.renF1, Leaf.renF, LowAll, AV.Low, AV.Low1, Leaf.Low, AObj.Low, Ptr.renF, Ptr.Low]) (by simp [objsLe, envLe, find, St.obj, AObj.renF, AV.renF, AV.renF1, Leaf.renF, LowAll, AV.Low, AV.Low1, Leaf.Low, AObj.Low, Ptr.renF, Ptr.Low]; omega) (by simp [objsLe, envLe, find, St.obj, AObj.renF, AV.renF, AV.renF1, Leaf.renF, LowAll, AV.Low, AV.Low1, Leaf.Low, AObj.Low, Ptr.renF, Ptr.Low]), i + 1, by omega, rfl, rfl⟩
 ·have hge' : i = n := by omega
  subst hge'
  have hd : decide ((i : Int) < i) = false := by simp
  simp (maxSteps := 2000000) only [go_sem, seval, List.length_range, hd]
  apply hK
  refine evl ?_
  refine Fin.nt results52 [] ?_ ?_ ?_ <;> try trivial
end Go.Proofs.YtmgemgeeoconbaaDoor.Mod
