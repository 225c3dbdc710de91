/- Contracts: Exact. -/
import Derived.Test.YtkmmgklnoagedaaGreatRows
import Derived.Test.YtkmmgklnoagedaaGreatBTy
import Derived.Test.YtkmmgklnoagedaaGreatAbsTac
import Derived.Test.YtkmmgklnoagedaaGreatAbsData
import Derived.Test.YtkmmgklnoagedaaGreatBMarks
import Derived.WalkKit
import Derived.ProofKit
import Derived.OpenShut
namespace Go.Proofs.YtkmmgklnoagedaaGreat.Mod
open Go.Proofs.Tryz Go.Abs Go.Proofs.YtkmmgklnoagedaaGreat.Ty Go.ChangeShapes Go.WideShapes Go.ChangeAt Go.RowKit
set_option linter.unusedSimpArgs false
set_option linter.unusedVariables false
set_option maxHeartbeats 8000000
set_option maxRecDepth 100000
def closeMd (st : St) (k n p sz : Nat) (rows : List (List D)) : St := ((st.setObj n .dead).setObj p .dead).setObj k (.vec sz true rows)
theorem closeMid {nf : Nat} {st : St} {k n p sz i : Nat} {A B : List (List D)} {r : List D} (hA : A.length = i) (e : st.obj k = .vec sz true (A ++ r :: B)) {j : Nat} (hj : j < sz) {v : Value} (hd : r.getD j default = .hdr v) {s2 : Nat} {rs : List (List D)}
  (en : st.obj n = lent s2 rs) (ep : st.obj p = .pin n v) (hkn : k ≠ n) : Ent nf st (closeMd st k n p sz (A ++ r.set j (.sl s2 rs) :: B)) := by
 have := Ent.closeL (nf := nf) e (i := i) (j := j) (by simp; omega) hj (by rw [getD_mid hA]; exact hd) en ep hkn
 rw [closeSt, getD_mid hA, set_mid hA] at this
 exact this
theorem c194_e (l : List LRow) (k : Int) (hk0 : 0 <= k) (hk : k + 2 * l.length <= 4611686018427387904) : Ctr prog 194 [.one (.own 0), .one (.dat (.int .i64 k))] [lent 2 (l.map encLRow)] (.one (.dat (.int .i64 (k + 2 * l.length)))) [lent 2 (markLRows k l.length)] := by
 cases l with
 | cons x l =>
  rw [lent_ne (rs := markLRows k (x :: l).length) (by intro e; have := congrArg List.length e; rw [markLRows_length] at this; simp at this)]
  exact c194 (x :: l) k hk0 hk
 | nil =>
  show Ctr prog 194 [.one (.own 0), .one (.dat (.int .i64 k))] [.frz 2 []] (.one (.dat (.int .i64 (k + 2 * ((0 : Nat) : Int))))) [.frz 2 []]
  rw [show k + 2 * ((0 : Nat) : Int) = k by omega]
  refine Ctr.bk mixed func194 rfl ?_
  refine evl ?_
  refine LoopK_intro (fun zn zs => zn = 0 /\ zs = mkSt [(5, .one (.dat (.int .i64 0))), (1, .one (.dat (.int .i64 k))), (0, .one (.own 0))] [.frz 2 []]) 0 _ (Ent.wk [0]) ⟨rfl, rfl⟩ ?_
  rintro zn zs ⟨rfl, rfl⟩ K hK
  have hd0 : decide ((0 : Int) < ((0 : Nat) : Int)) = false := rfl
  refine sv5 ?_
  apply hK
  refine evl ?_
  refine Fin.nt results194 [0] ?_ ?_ ?_ <;> try trivial
  all_goals exact entd
theorem c99_e (l : List Cmd) (k : Int) (hk0 : 0 <= k) (hk : k + 3 * l.length <= 4611686018427387904) : Ctr prog 99 [.one (.own 0), .one (.dat (.int .i64 k))] [lent 3 (l.map encCmd)] (.one (.dat (.int .i64 (k + 3 * l.length)))) [lent 3 (markCmds k l.length)] := by
 cases l with
 | cons x l =>
  rw [lent_ne (rs := markCmds k (x :: l).length) (by intro e; have := congrArg List.length e; rw [markCmds_length] at this; simp at this)]
  exact c99 (x :: l) k hk0 hk
 | nil =>
  show Ctr prog 99 [.one (.own 0), .one (.dat (.int .i64 k))] [.frz 3 []] (.one (.dat (.int .i64 (k + 3 * ((0 : Nat) : Int))))) [.frz 3 []]
  rw [show k + 3 * ((0 : Nat) : Int) = k by omega]
  refine Ctr.bk mixed func99 rfl ?_
  refine evl ?_
  refine LoopK_intro (fun zn zs => zn = 0 /\ zs = mkSt [(5, .one (.dat (.int .i64 0))), (1, .one (.dat (.int .i64 k))), (0, .one (.own 0))] [.frz 3 []]) 0 _ (Ent.wk [0]) ⟨rfl, rfl⟩ ?_
  rintro zn zs ⟨rfl, rfl⟩ K hK
  have hd0 : decide ((0 : Int) < ((0 : Nat) : Int)) = false := rfl
  refine sv5 ?_
  apply hK
  refine evl ?_
  refine Fin.nt results99 [0] ?_ ?_ ?_ <;> try trivial
  all_goals exact entd
theorem c104_e (l : List Seen) (k : Int) (hk0 : 0 <= k) (hk : k + 2 * l.length <= 4611686018427387904) : Ctr prog 104 [.one (.own 0), .one (.dat (.int .i64 k))] [lent 2 (l.map encSeen)] (.one (.dat (.int .i64 (k + 2 * l.length)))) [lent 2 (markSeens k l.length)] := by
 cases l with
 | cons x l =>
  rw [lent_ne (rs := markSeens k (x :: l).length) (by intro e; have := congrArg List.length e; rw [markSeens_length] at this; simp at this)]
  exact c104 (x :: l) k hk0 hk
 | nil =>
  show Ctr prog 104 [.one (.own 0), .one (.dat (.int .i64 k))] [.frz 2 []] (.one (.dat (.int .i64 (k + 2 * ((0 : Nat) : Int))))) [.frz 2 []]
  rw [show k + 2 * ((0 : Nat) : Int) = k by omega]
  refine Ctr.bk mixed func104 rfl ?_
  refine evl ?_
  refine LoopK_intro (fun zn zs => zn = 0 /\ zs = mkSt [(5, .one (.dat (.int .i64 0))), (1, .one (.dat (.int .i64 k))), (0, .one (.own 0))] [.frz 2 []]) 0 _ (Ent.wk [0]) ⟨rfl, rfl⟩ ?_
  rintro zn zs ⟨rfl, rfl⟩ K hK
  have hd0 : decide ((0 : Int) < ((0 : Nat) : Int)) = false := rfl
  refine sv5 ?_
  apply hK
  refine evl ?_
  refine Fin.nt results104 [0] ?_ ?_ ?_ <;> try trivial
  all_goals exact entd
theorem c105_e (l : List Write) (k : Int) (hk0 : 0 <= k) (hk : k + 3 * l.length <= 4611686018427387904) : Ctr prog 105 [.one (.own 0), .one (.dat (.int .i64 k))] [lent 3 (l.map encWrite)] (.one (.dat (.int .i64 (k + 3 * l.length)))) [lent 3 (markWrites k l.length)] := by
 cases l with
 | cons x l =>
  rw [lent_ne (rs := markWrites k (x :: l).length) (by intro e; have := congrArg List.length e; rw [markWrites_length] at this; simp at this)]
  exact c105 (x :: l) k hk0 hk
 | nil =>
  show Ctr prog 105 [.one (.own 0), .one (.dat (.int .i64 k))] [.frz 3 []] (.one (.dat (.int .i64 (k + 3 * ((0 : Nat) : Int))))) [.frz 3 []]
  rw [show k + 3 * ((0 : Nat) : Int) = k by omega]
  refine Ctr.bk mixed func105 rfl ?_
  refine evl ?_
  refine LoopK_intro (fun zn zs => zn = 0 /\ zs = mkSt [(5, .one (.dat (.int .i64 0))), (1, .one (.dat (.int .i64 k))), (0, .one (.own 0))] [.frz 3 []]) 0 _ (Ent.wk [0]) ⟨rfl, rfl⟩ ?_
  rintro zn zs ⟨rfl, rfl⟩ K hK
  have hd0 : decide ((0 : Int) < ((0 : Nat) : Int)) = false := rfl
  refine sv5 ?_
  apply hK
  refine evl ?_
  refine Fin.nt results105 [0] ?_ ?_ ?_ <;> try trivial
  all_goals exact entd
theorem c106_e (l : List Res) (k : Int) (hk0 : 0 <= k) (hk : k + 2 * l.length <= 4611686018427387904) : Ctr prog 106 [.one (.own 0), .one (.dat (.int .i64 k))] [lent 2 (l.map encRes)] (.one (.dat (.int .i64 (k + 2 * l.length)))) [lent 2 (markRess k l.length)] := by
 cases l with
 | cons x l =>
  rw [lent_ne (rs := markRess k (x :: l).length) (by intro e; have := congrArg List.length e; rw [markRess_length] at this; simp at this)]
  exact c106 (x :: l) k hk0 hk
 | nil =>
  show Ctr prog 106 [.one (.own 0), .one (.dat (.int .i64 k))] [.frz 2 []] (.one (.dat (.int .i64 (k + 2 * ((0 : Nat) : Int))))) [.frz 2 []]
  rw [show k + 2 * ((0 : Nat) : Int) = k by omega]
  refine Ctr.bk mixed func106 rfl ?_
  refine evl ?_
  refine LoopK_intro (fun zn zs => zn = 0 /\ zs = mkSt [(5, .one (.dat (.int .i64 0))), (1, .one (.dat (.int .i64 k))), (0, .one (.own 0))] [.frz 2 []]) 0 _ (Ent.wk [0]) ⟨rfl, rfl⟩ ?_
  rintro zn zs ⟨rfl, rfl⟩ K hK
  have hd0 : decide ((0 : Int) < ((0 : Nat) : Int)) = false := rfl
  refine sv5 ?_
  apply hK
  refine evl ?_
  refine Fin.nt results106 [0] ?_ ?_ ?_ <;> try trivial
  all_goals exact entd
def mrkLList (k : Int) (x : LList) : List D := [.sl 2 (markLRows k x.Rows.length)]
def mrkLListS : Int -> List LList -> List (List D)
 | _, [] => []
 | k, x :: l => mrkLList k x :: mrkLListS (k + (cntLList x : Nat)) l
theorem mrkLListS_len : ∀ (l : List LList) (k : Int), (mrkLListS k l).length = l.length
 | [], _ => rfl
 | x :: l, k => by rw [mrkLListS, List.length_cons, List.length_cons, mrkLListS_len l]
theorem mrkLListS_ne {l : List LList} (h : l ≠ []) (k : Int) : mrkLListS k l ≠ [] := by
 cases l with
 | nil => exact absurd rfl h
 | cons x l => simp [mrkLListS]
theorem c102_e (l : List LList) (hl : l.length <= 1048576) (hq : ∀ x ∈ l, x.sok) (k : Int) (hk0 : 0 <= k) (hk : k + (cntLListS l : Int) <= 4611686018427387904) : Ctr prog 102 [.one (.own 0), .one (.dat (.int .i64 k))] [.vec 1 true (l.map encLList)] (.one (.dat (.int .i64 (k + (cntLListS l : Int))))) [.vec 1 true (mrkLListS k l)] := by
 refine Ctr.of_body mixed func102 rfl (by kernel_rfl) (Nat.le_of_ble_eq_true rfl) (by simp [AV.Clean, AV.Clean1, Leaf.Clean, D.flat]) (by simp [AObj.Sep]) (by simp) ?_ (by simp [AV.Low, AV.Low1, Leaf.Low]) ?_
 ·intro o ho
  have : o = 0 := by simpa using ho
  subst this
  simp [Objs, Compat, mrkLListS_len]
 show wpA _ _ _ (FinQ _ _ _ _ _) _
 refine evl ?_
 refine LoopK_intro (fun zn zs => ∃ (i : Nat) (A : List (List D)) (kk : Int), i <= l.length /\ zn = l.length - i /\ (A.length = i /\ mrkLListS k l = A ++ mrkLListS kk (l.drop i) /\ 0 <= kk /\ kk + (cntLListS (l.drop i) : Int) = k + (cntLListS l : Int)) /\ zs = mkSt [(5, .one (.dat (.int .i64 i))), (1, .one (.dat (.int .i64 kk))), (0, .one (.own 0))] [.vec 1 true (A ++ (l.drop i).map encLList)]) l.length _
  (Ent.wk [0]) ⟨0, [], k, by omega, by omega, ⟨rfl, rfl, hk0, rfl⟩, rfl⟩ ?_
 rintro zn zs ⟨i, A, kk, hi, rfl, ⟨hA, hR2, hk1, hk2⟩, rfl⟩ K hK
 rcases Nat.lt_or_ge i l.length with hlt | hge
 ·have hd : decide ((i : Int) < ((l.length : Nat) : Int)) = true := decide_eq_true (by omega)
  have hw := wrap_succ hlt (show l.length <= maxLen by unfold maxLen; omega)
  have hqx := hq l[i] (List.getElem_mem hlt)
  rw [List.drop_eq_getElem_cons hlt] at hk2 hR2 ⊢
  rw [List.map_cons]
  generalize l[i] = x at hk2 hR2 hqx ⊢
  obtain ⟨q0, _⟩ := hqx
  rw [cntLListS_cons] at hk2
  have hcx : cntLList x = 2 * x.Rows.length := rfl
  rw [mrkLListS] at hR2
  have hBl : ((l.drop (i + 1)).map encLList).length = l.length - (i + 1) := by simp
  have hl1 : ∀ y, (A ++ y :: (l.drop (i + 1)).map encLList).length = l.length := fun y => by rw [List.length_append, List.length_cons, hBl]; omega
  have hrow : mrkLList kk x = [.sl 2 (markLRows kk x.Rows.length)] := by rfl
  have hEE : kk + ((cntLList x : Nat) : Int) = (kk + 2 * (x.Rows.length : Int)) := by omega
  rw [hrow, hEE] at hR2
  refine sv13 ?_
  refine scs ?_
  intro v0
  try (refine sv13 ?_)
  refine scs ?_
  refine CallK_os [1] e194 (by simp [osOk, St.obj, find]) (c194_e x.Rows (kk) (by omega) (by omega)) rfl ?_
  refine sv13 ?_
  refine scs ?_
  apply hK
  refine ⟨l.length - (i + 1), _, by omega, Ent.trans (closeMid (k := 0) (n := 1) (p := 2) (j := 0) (v := v0) (s2 := 2) (rs := markLRows (kk) x.Rows.length) hA rfl (by decide) rfl rfl rfl (by decide)) (?_), i + 1, A ++ [[.sl 2 (markLRows kk x.Rows.length)]], (kk + 2 * (x.Rows.length : Int)), by omega, rfl, ⟨by simp [hA], by rw [hR2, List.append_assoc]; rfl, by omega, by omega⟩, rfl⟩
  refine Ent.wk [0] (h4 := objsLe_one (Nat.zero_lt_succ _) ?_) (h5 := ?_)
  ·show AObj.vec 1 true _ = AObj.vec 1 true _
   rw [List.append_assoc]
   rfl
  ·simp [closeMd, St.setObj, envLe, find, AV.renF, AV.renF1, Leaf.renF, hw]
 ·have hge' : i = l.length := by omega
  subst hge'
  rw [List.drop_length] at hk2 hR2 ⊢
  rw [mrkLListS, List.append_nil] at hR2
  have hkk : kk = k + (cntLListS l : Int) := by rw [<- hk2]; simp [cntLListS]
  have hd : decide (((l.length : Nat) : Int) < ((l.length : Nat) : Int)) = false := by simp
  rw [List.map_nil, List.append_nil]
  refine sv9 ?_
  apply hK
  refine evl ?_
  rw [hkk, hR2]
  refine Fin.nt results102 [0] ?_ ?_ ?_ <;> try trivial
  all_goals exact entd
theorem c102_f (l : List LList) (hl : l.length <= 1048576) (hq : ∀ x ∈ l, x.sok) (k : Int) (hk0 : 0 <= k) (hk : k + (cntLListS l : Int) <= 4611686018427387904) : Ctr prog 102 [.one (.own 0), .one (.dat (.int .i64 k))] [lent 1 (l.map encLList)] (.one (.dat (.int .i64 (k + (cntLListS l : Int))))) [lent 1 (mrkLListS k l)] := by
 cases l with
 | cons x l =>
  rw [lent_ne (mrkLListS_ne (by simp) k)]
  exact c102_e (x :: l) hl hq k hk0 hk
 | nil =>
  show Ctr prog 102 [.one (.own 0), .one (.dat (.int .i64 k))] [.frz 1 []] (.one (.dat (.int .i64 (k + (cntLListS ([] : List LList) : Int))))) [.frz 1 []]
  rw [show k + (cntLListS ([] : List LList) : Int) = k by simp [cntLListS]]
  refine Ctr.bk mixed func102 rfl ?_
  refine evl ?_
  refine LoopK_intro (fun zn zs => zn = 0 /\ zs = mkSt [(5, .one (.dat (.int .i64 0))), (1, .one (.dat (.int .i64 k))), (0, .one (.own 0))] [.frz 1 []]) 0 _ (Ent.wk [0]) ⟨rfl, rfl⟩ ?_
  rintro zn zs ⟨rfl, rfl⟩ K hK
  have hd0 : decide ((0 : Int) < ((0 : Nat) : Int)) = false := rfl
  refine sv5 ?_
  apply hK
  refine evl ?_
  refine Fin.nt results102 [0] ?_ ?_ ?_ <;> try trivial
  all_goals exact entd
theorem c109 (l : List LList) (hl : l.length <= 1048576) (hq : ∀ x ∈ l, x.sok) (k : Int) (hk0 : 0 <= k) (hk : k + (cntLListS l : Int) <= 4611686018427387904) : Ctr prog 109 [.one (.dat (.sl 1 (mrkLListS k l))), .one (.dat (.int .i64 k))] [] (.one (.dat (.int .i64 (k + (cntLListS l : Int))))) [] := by
 obtain ⟨R, hR⟩ : ∃ R, R = mrkLListS k l := ⟨_, rfl⟩
 have hRl : R.length = l.length := by rw [hR, mrkLListS_len]
 rw [<- hR]
 refine Ctr.bd mixed func109 rfl ?_
 refine evl ?_
 refine LoopK_intro (fun zn zs => ∃ (i : Nat) (A : List (List D)) (kk : Int), i <= l.length /\ zn = l.length - i /\ (A.length = i /\ R = A ++ mrkLListS kk (l.drop i) /\ 0 <= kk /\ kk + (cntLListS (l.drop i) : Int) = k + (cntLListS l : Int)) /\ zs = mkSt [(5, .one (.dat (.int .i64 i))), (1, .one (.dat (.int .i64 kk))), (0, .one (.dat (.sl 1 R)))] []) l.length _
  (Ent.wk []) ⟨0, [], k, by omega, by omega, ⟨rfl, hR, hk0, rfl⟩, rfl⟩ ?_
 rintro zn zs ⟨i, A, kk, hi, rfl, ⟨hA, hR2, hk1, hk2⟩, rfl⟩ K hK
 rcases Nat.lt_or_ge i l.length with hlt | hge
 ·have hd : decide ((i : Int) < ((l.length : Nat) : Int)) = true := decide_eq_true (by omega)
  have hw := wrap_succ hlt (show l.length <= maxLen by unfold maxLen; omega)
  have hqx := hq l[i] (List.getElem_mem hlt)
  rw [List.drop_eq_getElem_cons hlt] at hk2 hR2
  generalize l[i] = x at hk2 hR2 hqx
  obtain ⟨q0, _⟩ := hqx
  rw [cntLListS_cons] at hk2
  have hcx : cntLList x = 2 * x.Rows.length := rfl
  rw [mrkLListS] at hR2
  have hn1 : decide ((kk + 2 * (x.Rows.length : Int)) < 0) = false := decide_eq_false (by omega)
  have hrow : mrkLList kk x = [.sl 2 (markLRows kk x.Rows.length)] := by rfl
  have hEE : kk + ((cntLList x : Nat) : Int) = (kk + 2 * (x.Rows.length : Int)) := by omega
  rw [hrow, hEE] at hR2
  have hg : R.getD i [] = [.sl 2 (markLRows kk x.Rows.length)] := by rw [hR2, getD_mid hA]
  refine sv14 ?_
  refine scs ?_
  refine ck e198 (c198 x.Rows.length (kk) (by omega) (by omega)) rfl ?_
  refine sv14 ?_
  refine scs ?_
  apply hK
  exact ⟨l.length - (i + 1), _, by omega, Ent.wk [], i + 1, A ++ [[.sl 2 (markLRows kk x.Rows.length)]], (kk + 2 * (x.Rows.length : Int)), by omega, rfl, ⟨by simp [hA], by rw [hR2, List.append_assoc]; rfl, by omega, by omega⟩, rfl⟩
 ·have hge' : i = l.length := by omega
  subst hge'
  rw [List.drop_length] at hk2
  have hkk : kk = k + (cntLListS l : Int) := by rw [<- hk2]; simp [cntLListS]
  have hd : decide (((l.length : Nat) : Int) < ((l.length : Nat) : Int)) = false := by simp
  refine sv10 ?_
  apply hK
  refine evl ?_
  rw [hkk]
  refine Fin.nt results109 [] ?_ ?_ ?_ <;> try trivial
def mrkBatch (k : Int) (x : Batch) : List D := [.bool ((k).tmod 3 == 0), .sl 3 (markCmds (k + 1) x.Cmds.length)]
def mrkBatchS : Int -> List Batch -> List (List D)
 | _, [] => []
 | k, x :: l => mrkBatch k x :: mrkBatchS (k + (cntBatch x : Nat)) l
theorem mrkBatchS_len : ∀ (l : List Batch) (k : Int), (mrkBatchS k l).length = l.length
 | [], _ => rfl
 | x :: l, k => by rw [mrkBatchS, List.length_cons, List.length_cons, mrkBatchS_len l]
theorem mrkBatchS_ne {l : List Batch} (h : l ≠ []) (k : Int) : mrkBatchS k l ≠ [] := by
 cases l with
 | nil => exact absurd rfl h
 | cons x l => simp [mrkBatchS]
theorem c37_e (l : List Batch) (hl : l.length <= 1048576) (hq : ∀ x ∈ l, x.sok) (k : Int) (hk0 : 0 <= k) (hk : k + (cntBatchS l : Int) <= 4611686018427387904) : Ctr prog 37 [.one (.own 0), .one (.dat (.int .i64 k))] [.vec 2 true (l.map encBatch)] (.one (.dat (.int .i64 (k + (cntBatchS l : Int))))) [.vec 2 true (mrkBatchS k l)] := by
 refine Ctr.of_body mixed func37 rfl (by kernel_rfl) (Nat.le_of_ble_eq_true rfl) (by simp [AV.Clean, AV.Clean1, Leaf.Clean, D.flat]) (by simp [AObj.Sep]) (by simp) ?_ (by simp [AV.Low, AV.Low1, Leaf.Low]) ?_
 ·intro o ho
  have : o = 0 := by simpa using ho
  subst this
  simp [Objs, Compat, mrkBatchS_len]
 show wpA _ _ _ (FinQ _ _ _ _ _) _
 refine evl ?_
 refine LoopK_intro (fun zn zs => ∃ (i : Nat) (A : List (List D)) (kk : Int), i <= l.length /\ zn = l.length - i /\ (A.length = i /\ mrkBatchS k l = A ++ mrkBatchS kk (l.drop i) /\ 0 <= kk /\ kk + (cntBatchS (l.drop i) : Int) = k + (cntBatchS l : Int)) /\ zs = mkSt [(5, .one (.dat (.int .i64 i))), (1, .one (.dat (.int .i64 kk))), (0, .one (.own 0))] [.vec 2 true (A ++ (l.drop i).map encBatch)]) l.length _
  (Ent.wk [0]) ⟨0, [], k, by omega, by omega, ⟨rfl, rfl, hk0, rfl⟩, rfl⟩ ?_
 rintro zn zs ⟨i, A, kk, hi, rfl, ⟨hA, hR2, hk1, hk2⟩, rfl⟩ K hK
 rcases Nat.lt_or_ge i l.length with hlt | hge
 ·have hd : decide ((i : Int) < ((l.length : Nat) : Int)) = true := decide_eq_true (by omega)
  have hw := wrap_succ hlt (show l.length <= maxLen by unfold maxLen; omega)
  have hqx := hq l[i] (List.getElem_mem hlt)
  rw [List.drop_eq_getElem_cons hlt] at hk2 hR2 ⊢
  rw [List.map_cons]
  generalize l[i] = x at hk2 hR2 hqx ⊢
  obtain ⟨q0, _⟩ := hqx
  rw [cntBatchS_cons] at hk2
  have hcx : cntBatch x = 1 + 3 * x.Cmds.length := rfl
  rw [mrkBatchS] at hR2
  have hBl : ((l.drop (i + 1)).map encBatch).length = l.length - (i + 1) := by simp
  have hl1 : ∀ y, (A ++ y :: (l.drop (i + 1)).map encBatch).length = l.length := fun y => by rw [List.length_append, List.length_cons, hBl]; omega
  obtain ⟨k1, hk1e⟩ : ∃ z, z = kk + 1 := ⟨_, rfl⟩
  have hw1 : IntKind.i64.wrap (kk + 1) = k1 := by rw [hk1e, IntKind.wrap_i64]; omega
  have hrow : mrkBatch kk x = [.bool ((kk).tmod 3 == 0), .sl 3 (markCmds k1 x.Cmds.length)] := by subst hk1e; rfl
  have hEE : kk + ((cntBatch x : Nat) : Int) = (k1 + 3 * (x.Cmds.length : Int)) := by omega
  rw [hrow, hEE] at hR2
  refine sv6 ?_
  refine scs ?_
  intro v0
  try (refine sv6 ?_)
  refine scs ?_
  refine CallK_os [1] e99 (by simp [osOk, St.obj, find]) (c99_e x.Cmds (k1) (by omega) (by omega)) rfl ?_
  refine sv6 ?_
  refine scs ?_
  apply hK
  refine ⟨l.length - (i + 1), _, by omega, Ent.trans (closeMid (k := 0) (n := 1) (p := 2) (j := 1) (v := v0) (s2 := 3) (rs := markCmds (k1) x.Cmds.length) hA rfl (by decide) rfl rfl rfl (by decide)) (?_), i + 1, A ++ [[.bool ((kk).tmod 3 == 0), .sl 3 (markCmds k1 x.Cmds.length)]], (k1 + 3 * (x.Cmds.length : Int)), by omega, rfl, ⟨by simp [hA], by rw [hR2, List.append_assoc]; rfl, by omega, by omega⟩, rfl⟩
  refine Ent.wk [0] (h4 := objsLe_one (Nat.zero_lt_succ _) ?_) (h5 := ?_)
  ·show AObj.vec 2 true _ = AObj.vec 2 true _
   rw [List.append_assoc]
   rfl
  ·simp [closeMd, St.setObj, envLe, find, AV.renF, AV.renF1, Leaf.renF, hw]
 ·have hge' : i = l.length := by omega
  subst hge'
  rw [List.drop_length] at hk2 hR2 ⊢
  rw [mrkBatchS, List.append_nil] at hR2
  have hkk : kk = k + (cntBatchS l : Int) := by rw [<- hk2]; simp [cntBatchS]
  have hd : decide (((l.length : Nat) : Int) < ((l.length : Nat) : Int)) = false := by simp
  rw [List.map_nil, List.append_nil]
  refine sv9 ?_
  apply hK
  refine evl ?_
  rw [hkk, hR2]
  refine Fin.nt results37 [0] ?_ ?_ ?_ <;> try trivial
  all_goals exact entd
theorem c37_f (l : List Batch) (hl : l.length <= 1048576) (hq : ∀ x ∈ l, x.sok) (k : Int) (hk0 : 0 <= k) (hk : k + (cntBatchS l : Int) <= 4611686018427387904) : Ctr prog 37 [.one (.own 0), .one (.dat (.int .i64 k))] [lent 2 (l.map encBatch)] (.one (.dat (.int .i64 (k + (cntBatchS l : Int))))) [lent 2 (mrkBatchS k l)] := by
 cases l with
 | cons x l =>
  rw [lent_ne (mrkBatchS_ne (by simp) k)]
  exact c37_e (x :: l) hl hq k hk0 hk
 | nil =>
  show Ctr prog 37 [.one (.own 0), .one (.dat (.int .i64 k))] [.frz 2 []] (.one (.dat (.int .i64 (k + (cntBatchS ([] : List Batch) : Int))))) [.frz 2 []]
  rw [show k + (cntBatchS ([] : List Batch) : Int) = k by simp [cntBatchS]]
  refine Ctr.bk mixed func37 rfl ?_
  refine evl ?_
  refine LoopK_intro (fun zn zs => zn = 0 /\ zs = mkSt [(5, .one (.dat (.int .i64 0))), (1, .one (.dat (.int .i64 k))), (0, .one (.own 0))] [.frz 2 []]) 0 _ (Ent.wk [0]) ⟨rfl, rfl⟩ ?_
  rintro zn zs ⟨rfl, rfl⟩ K hK
  have hd0 : decide ((0 : Int) < ((0 : Nat) : Int)) = false := rfl
  refine sv5 ?_
  apply hK
  refine evl ?_
  refine Fin.nt results37 [0] ?_ ?_ ?_ <;> try trivial
  all_goals exact entd
theorem c115 (l : List Batch) (hl : l.length <= 1048576) (hq : ∀ x ∈ l, x.sok) (k : Int) (hk0 : 0 <= k) (hk : k + (cntBatchS l : Int) <= 4611686018427387904) : Ctr prog 115 [.one (.dat (.sl 2 (mrkBatchS k l))), .one (.dat (.int .i64 k))] [] (.one (.dat (.int .i64 (k + (cntBatchS l : Int))))) [] := by
 obtain ⟨R, hR⟩ : ∃ R, R = mrkBatchS k l := ⟨_, rfl⟩
 have hRl : R.length = l.length := by rw [hR, mrkBatchS_len]
 rw [<- hR]
 refine Ctr.bd mixed func115 rfl ?_
 refine evl ?_
 refine LoopK_intro (fun zn zs => ∃ (i : Nat) (A : List (List D)) (kk : Int), i <= l.length /\ zn = l.length - i /\ (A.length = i /\ R = A ++ mrkBatchS kk (l.drop i) /\ 0 <= kk /\ kk + (cntBatchS (l.drop i) : Int) = k + (cntBatchS l : Int)) /\ zs = mkSt [(5, .one (.dat (.int .i64 i))), (1, .one (.dat (.int .i64 kk))), (0, .one (.dat (.sl 2 R)))] []) l.length _
  (Ent.wk []) ⟨0, [], k, by omega, by omega, ⟨rfl, hR, hk0, rfl⟩, rfl⟩ ?_
 rintro zn zs ⟨i, A, kk, hi, rfl, ⟨hA, hR2, hk1, hk2⟩, rfl⟩ K hK
 rcases Nat.lt_or_ge i l.length with hlt | hge
 ·have hd : decide ((i : Int) < ((l.length : Nat) : Int)) = true := decide_eq_true (by omega)
  have hw := wrap_succ hlt (show l.length <= maxLen by unfold maxLen; omega)
  have hqx := hq l[i] (List.getElem_mem hlt)
  rw [List.drop_eq_getElem_cons hlt] at hk2 hR2
  generalize l[i] = x at hk2 hR2 hqx
  obtain ⟨q0, _⟩ := hqx
  rw [cntBatchS_cons] at hk2
  have hcx : cntBatch x = 1 + 3 * x.Cmds.length := rfl
  rw [mrkBatchS] at hR2
  obtain ⟨k1, hk1e⟩ : ∃ z, z = kk + 1 := ⟨_, rfl⟩
  have hw1 : IntKind.i64.wrap (kk + 1) = k1 := by rw [hk1e, IntKind.wrap_i64]; omega
  have hn1 : decide ((k1 + 3 * (x.Cmds.length : Int)) < 0) = false := decide_eq_false (by omega)
  have hrow : mrkBatch kk x = [.bool ((kk).tmod 3 == 0), .sl 3 (markCmds k1 x.Cmds.length)] := by subst hk1e; rfl
  have hEE : kk + ((cntBatch x : Nat) : Int) = (k1 + 3 * (x.Cmds.length : Int)) := by omega
  rw [hrow, hEE] at hR2
  have hg : R.getD i [] = [.bool ((kk).tmod 3 == 0), .sl 3 (markCmds k1 x.Cmds.length)] := by rw [hR2, getD_mid hA]
  simp (maxSteps := 2000000) only [go_sem, seval, hRl, hd, hg, hw, bne_self_eq_false, hw1, hn1]
  refine scs ?_
  refine ck e111 (c111 x.Cmds.length (k1) (by omega) (by omega)) rfl ?_
  simp (maxSteps := 2000000) only [go_sem, seval, hRl, hd, hg, hw, bne_self_eq_false, hw1, hn1]
  refine scs ?_
  apply hK
  exact ⟨l.length - (i + 1), _, by omega, Ent.wk [], i + 1, A ++ [[.bool ((kk).tmod 3 == 0), .sl 3 (markCmds k1 x.Cmds.length)]], (k1 + 3 * (x.Cmds.length : Int)), by omega, rfl, ⟨by simp [hA], by rw [hR2, List.append_assoc]; rfl, by omega, by omega⟩, rfl⟩
 ·have hge' : i = l.length := by omega
  subst hge'
  rw [List.drop_length] at hk2
  have hkk : kk = k + (cntBatchS l : Int) := by rw [<- hk2]; simp [cntBatchS]
  have hd : decide (((l.length : Nat) : Int) < ((l.length : Nat) : Int)) = false := by simp
  refine sv10 ?_
  apply hK
  refine evl ?_
  rw [hkk]
  refine Fin.nt results115 [] ?_ ?_ ?_ <;> try trivial
def mrkTQueue (k : Int) (x : TQueue) : List D := [.sl 2 (mrkBatchS k x.List)]
def mrkTQueueS : Int -> List TQueue -> List (List D)
 | _, [] => []
 | k, x :: l => mrkTQueue k x :: mrkTQueueS (k + (cntTQueue x : Nat)) l
theorem mrkTQueueS_len : ∀ (l : List TQueue) (k : Int), (mrkTQueueS k l).length = l.length
 | [], _ => rfl
 | x :: l, k => by rw [mrkTQueueS, List.length_cons, List.length_cons, mrkTQueueS_len l]
theorem mrkTQueueS_ne {l : List TQueue} (h : l ≠ []) (k : Int) : mrkTQueueS k l ≠ [] := by
 cases l with
 | nil => exact absurd rfl h
 | cons x l => simp [mrkTQueueS]
theorem c12_e (l : List TQueue) (hl : l.length <= 1048576) (hq : ∀ x ∈ l, x.sok) (k : Int) (hk0 : 0 <= k) (hk : k + (cntTQueueS l : Int) <= 4611686018427387904) : Ctr prog 12 [.one (.own 0), .one (.dat (.int .i64 k))] [.vec 1 true (l.map encTQueue)] (.one (.dat (.int .i64 (k + (cntTQueueS l : Int))))) [.vec 1 true (mrkTQueueS k l)] := by
 refine Ctr.of_body mixed func12 rfl (by kernel_rfl) (Nat.le_of_ble_eq_true rfl) (by simp [AV.Clean, AV.Clean1, Leaf.Clean, D.flat]) (by simp [AObj.Sep]) (by simp) ?_ (by simp [AV.Low, AV.Low1, Leaf.Low]) ?_
 ·intro o ho
  have : o = 0 := by simpa using ho
  subst this
  simp [Objs, Compat, mrkTQueueS_len]
 show wpA _ _ _ (FinQ _ _ _ _ _) _
 refine evl ?_
 refine LoopK_intro (fun zn zs => ∃ (i : Nat) (A : List (List D)) (kk : Int), i <= l.length /\ zn = l.length - i /\ (A.length = i /\ mrkTQueueS k l = A ++ mrkTQueueS kk (l.drop i) /\ 0 <= kk /\ kk + (cntTQueueS (l.drop i) : Int) = k + (cntTQueueS l : Int)) /\ zs = mkSt [(5, .one (.dat (.int .i64 i))), (1, .one (.dat (.int .i64 kk))), (0, .one (.own 0))] [.vec 1 true (A ++ (l.drop i).map encTQueue)]) l.length _
  (Ent.wk [0]) ⟨0, [], k, by omega, by omega, ⟨rfl, rfl, hk0, rfl⟩, rfl⟩ ?_
 rintro zn zs ⟨i, A, kk, hi, rfl, ⟨hA, hR2, hk1, hk2⟩, rfl⟩ K hK
 rcases Nat.lt_or_ge i l.length with hlt | hge
 ·have hd : decide ((i : Int) < ((l.length : Nat) : Int)) = true := decide_eq_true (by omega)
  have hw := wrap_succ hlt (show l.length <= maxLen by unfold maxLen; omega)
  have hqx := hq l[i] (List.getElem_mem hlt)
  rw [List.drop_eq_getElem_cons hlt] at hk2 hR2 ⊢
  rw [List.map_cons]
  generalize l[i] = x at hk2 hR2 hqx ⊢
  obtain ⟨q0, q1, _⟩ := hqx
  rw [cntTQueueS_cons] at hk2
  have hcx : cntTQueue x = cntBatchS x.List := rfl
  rw [mrkTQueueS] at hR2
  have hBl : ((l.drop (i + 1)).map encTQueue).length = l.length - (i + 1) := by simp
  have hl1 : ∀ y, (A ++ y :: (l.drop (i + 1)).map encTQueue).length = l.length := fun y => by rw [List.length_append, List.length_cons, hBl]; omega
  have hrow : mrkTQueue kk x = [.sl 2 (mrkBatchS kk x.List)] := by rfl
  have hEE : kk + ((cntTQueue x : Nat) : Int) = (kk + (cntBatchS x.List : Int)) := by omega
  rw [hrow, hEE] at hR2
  refine sv7 ?_
  refine scs ?_
  intro v0
  try (refine sv7 ?_)
  refine scs ?_
  refine CallK_os [1] e37 (by simp [osOk, St.obj, find]) (c37_f x.List q0 q1 (kk) (by omega) (by omega)) rfl ?_
  refine sv7 ?_
  refine scs ?_
  apply hK
  refine ⟨l.length - (i + 1), _, by omega, Ent.trans (closeMid (k := 0) (n := 1) (p := 2) (j := 0) (v := v0) (s2 := 2) (rs := mrkBatchS (kk) x.List) hA rfl (by decide) rfl rfl rfl (by decide)) (?_), i + 1, A ++ [[.sl 2 (mrkBatchS kk x.List)]], (kk + (cntBatchS x.List : Int)), by omega, rfl, ⟨by simp [hA], by rw [hR2, List.append_assoc]; rfl, by omega, by omega⟩, rfl⟩
  refine Ent.wk [0] (h4 := objsLe_one (Nat.zero_lt_succ _) ?_) (h5 := ?_)
  ·show AObj.vec 1 true _ = AObj.vec 1 true _
   rw [List.append_assoc]
   rfl
  ·simp [closeMd, St.setObj, envLe, find, AV.renF, AV.renF1, Leaf.renF, hw]
 ·have hge' : i = l.length := by omega
  subst hge'
  rw [List.drop_length] at hk2 hR2 ⊢
  rw [mrkTQueueS, List.append_nil] at hR2
  have hkk : kk = k + (cntTQueueS l : Int) := by rw [<- hk2]; simp [cntTQueueS]
  have hd : decide (((l.length : Nat) : Int) < ((l.length : Nat) : Int)) = false := by simp
  rw [List.map_nil, List.append_nil]
  refine sv9 ?_
  apply hK
  refine evl ?_
  rw [hkk, hR2]
  refine Fin.nt results12 [0] ?_ ?_ ?_ <;> try trivial
  all_goals exact entd
theorem c12_f (l : List TQueue) (hl : l.length <= 1048576) (hq : ∀ x ∈ l, x.sok) (k : Int) (hk0 : 0 <= k) (hk : k + (cntTQueueS l : Int) <= 4611686018427387904) : Ctr prog 12 [.one (.own 0), .one (.dat (.int .i64 k))] [lent 1 (l.map encTQueue)] (.one (.dat (.int .i64 (k + (cntTQueueS l : Int))))) [lent 1 (mrkTQueueS k l)] := by
 cases l with
 | cons x l =>
  rw [lent_ne (mrkTQueueS_ne (by simp) k)]
  exact c12_e (x :: l) hl hq k hk0 hk
 | nil =>
  show Ctr prog 12 [.one (.own 0), .one (.dat (.int .i64 k))] [.frz 1 []] (.one (.dat (.int .i64 (k + (cntTQueueS ([] : List TQueue) : Int))))) [.frz 1 []]
  rw [show k + (cntTQueueS ([] : List TQueue) : Int) = k by simp [cntTQueueS]]
  refine Ctr.bk mixed func12 rfl ?_
  refine evl ?_
  refine LoopK_intro (fun zn zs => zn = 0 /\ zs = mkSt [(5, .one (.dat (.int .i64 0))), (1, .one (.dat (.int .i64 k))), (0, .one (.own 0))] [.frz 1 []]) 0 _ (Ent.wk [0]) ⟨rfl, rfl⟩ ?_
  rintro zn zs ⟨rfl, rfl⟩ K hK
  have hd0 : decide ((0 : Int) < ((0 : Nat) : Int)) = false := rfl
  refine sv5 ?_
  apply hK
  refine evl ?_
  refine Fin.nt results12 [0] ?_ ?_ ?_ <;> try trivial
  all_goals exact entd
theorem c45 (l : List TQueue) (hl : l.length <= 1048576) (hq : ∀ x ∈ l, x.sok) (k : Int) (hk0 : 0 <= k) (hk : k + (cntTQueueS l : Int) <= 4611686018427387904) : Ctr prog 45 [.one (.dat (.sl 1 (mrkTQueueS k l))), .one (.dat (.int .i64 k))] [] (.one (.dat (.int .i64 (k + (cntTQueueS l : Int))))) [] := by
 obtain ⟨R, hR⟩ : ∃ R, R = mrkTQueueS k l := ⟨_, rfl⟩
 have hRl : R.length = l.length := by rw [hR, mrkTQueueS_len]
 rw [<- hR]
 refine Ctr.bd mixed func45 rfl ?_
 refine evl ?_
 refine LoopK_intro (fun zn zs => ∃ (i : Nat) (A : List (List D)) (kk : Int), i <= l.length /\ zn = l.length - i /\ (A.length = i /\ R = A ++ mrkTQueueS kk (l.drop i) /\ 0 <= kk /\ kk + (cntTQueueS (l.drop i) : Int) = k + (cntTQueueS l : Int)) /\ zs = mkSt [(5, .one (.dat (.int .i64 i))), (1, .one (.dat (.int .i64 kk))), (0, .one (.dat (.sl 1 R)))] []) l.length _
  (Ent.wk []) ⟨0, [], k, by omega, by omega, ⟨rfl, hR, hk0, rfl⟩, rfl⟩ ?_
 rintro zn zs ⟨i, A, kk, hi, rfl, ⟨hA, hR2, hk1, hk2⟩, rfl⟩ K hK
 rcases Nat.lt_or_ge i l.length with hlt | hge
 ·have hd : decide ((i : Int) < ((l.length : Nat) : Int)) = true := decide_eq_true (by omega)
  have hw := wrap_succ hlt (show l.length <= maxLen by unfold maxLen; omega)
  have hqx := hq l[i] (List.getElem_mem hlt)
  rw [List.drop_eq_getElem_cons hlt] at hk2 hR2
  generalize l[i] = x at hk2 hR2 hqx
  obtain ⟨q0, q1, _⟩ := hqx
  rw [cntTQueueS_cons] at hk2
  have hcx : cntTQueue x = cntBatchS x.List := rfl
  rw [mrkTQueueS] at hR2
  have hn1 : decide ((kk + (cntBatchS x.List : Int)) < 0) = false := decide_eq_false (by omega)
  have hrow : mrkTQueue kk x = [.sl 2 (mrkBatchS kk x.List)] := by rfl
  have hEE : kk + ((cntTQueue x : Nat) : Int) = (kk + (cntBatchS x.List : Int)) := by omega
  rw [hrow, hEE] at hR2
  have hg : R.getD i [] = [.sl 2 (mrkBatchS kk x.List)] := by rw [hR2, getD_mid hA]
  refine sv14 ?_
  refine scs ?_
  refine ck e115 (c115 x.List q0 q1 (kk) (by omega) (by omega)) rfl ?_
  refine sv14 ?_
  refine scs ?_
  apply hK
  exact ⟨l.length - (i + 1), _, by omega, Ent.wk [], i + 1, A ++ [[.sl 2 (mrkBatchS kk x.List)]], (kk + (cntBatchS x.List : Int)), by omega, rfl, ⟨by simp [hA], by rw [hR2, List.append_assoc]; rfl, by omega, by omega⟩, rfl⟩
 ·have hge' : i = l.length := by omega
  subst hge'
  rw [List.drop_length] at hk2
  have hkk : kk = k + (cntTQueueS l : Int) := by rw [<- hk2]; simp [cntTQueueS]
  have hd : decide (((l.length : Nat) : Int) < ((l.length : Nat) : Int)) = false := by simp
  refine sv10 ?_
  apply hK
  refine evl ?_
  rw [hkk]
  refine Fin.nt results45 [] ?_ ?_ ?_ <;> try trivial
def mrkTJob (k : Int) (x : TJob) : List D := [.bool ((k).tmod 3 == 0), .bool ((k + 1).tmod 3 == 0), .sl 3 (markCmds (k + 1 + 1) x.Batch.Cmds.length), .int .i64 (k + 1 + 1 + 3 * (x.Batch.Cmds.length : Int)), .int .i64 (k + 1 + 1 + 3 * (x.Batch.Cmds.length : Int) + 1), .int .i64 (k + 1 + 1 + 3 * (x.Batch.Cmds.length : Int) + 1 + 1), .int .i64 (k + 1 + 1 + 3 * (x.Batch.Cmds.length : Int) + 1 + 1 + 1), .int .i64 (k + 1 + 1 + 3 * (x.Batch.Cmds.length : Int) + 1 + 1 + 1 + 1), .int .i64 (k + 1 + 1 + 3 * (x.Batch.Cmds.length : Int) + 1 + 1 + 1 + 1 + 1), .int .i64 (k + 1 + 1 + 3 * (x.Batch.Cmds.length : Int) + 1 + 1 + 1 + 1 + 1 + 1), .int .i64 (k + 1 + 1 + 3 * (x.Batch.Cmds.length : Int) + 1 + 1 + 1 + 1 + 1 + 1 + 1), .int .i64 (k + 1 + 1 + 3 * (x.Batch.Cmds.length : Int) + 1 + 1 + 1 + 1 + 1 + 1 + 1 + 1), .int .i64 (k + 1 + 1 + 3 * (x.Batch.Cmds.length : Int) + 1 + 1 + 1 + 1 + 1 + 1 + 1 + 1 + 1), .int .i64 (k + 1 + 1 + 3 * (x.Batch.Cmds.length : Int) + 1 + 1 + 1 + 1 + 1 + 1 + 1 + 1 + 1 + 1), .bool ((k + 1 + 1 + 3 * (x.Batch.Cmds.length : Int) + 1 + 1 + 1 + 1 + 1 + 1 + 1 + 1 + 1 + 1 + 1).tmod 3 == 0), .int .i64 (k + 1 + 1 + 3 * (x.Batch.Cmds.length : Int) + 1 + 1 + 1 + 1 + 1 + 1 + 1 + 1 + 1 + 1 + 1 + 1), .int .i64 (k + 1 + 1 + 3 * (x.Batch.Cmds.length : Int) + 1 + 1 + 1 + 1 + 1 + 1 + 1 + 1 + 1 + 1 + 1 + 1 + 1), .int .i64 (k + 1 + 1 + 3 * (x.Batch.Cmds.length : Int) + 1 + 1 + 1 + 1 + 1 + 1 + 1 + 1 + 1 + 1 + 1 + 1 + 1 + 1), .int .i64 (k + 1 + 1 + 3 * (x.Batch.Cmds.length : Int) + 1 + 1 + 1 + 1 + 1 + 1 + 1 + 1 + 1 + 1 + 1 + 1 + 1 + 1 + 1), .int .i64 (k + 1 + 1 + 3 * (x.Batch.Cmds.length : Int) + 1 + 1 + 1 + 1 + 1 + 1 + 1 + 1 + 1 + 1 + 1 + 1 + 1 + 1 + 1 + 1), .int .i64 (k + 1 + 1 + 3 * (x.Batch.Cmds.length : Int) + 1 + 1 + 1 + 1 + 1 + 1 + 1 + 1 + 1 + 1 + 1 + 1 + 1 + 1 + 1 + 1 + 1), .int .i64 (k + 1 + 1 + 3 * (x.Batch.Cmds.length : Int) + 1 + 1 + 1 + 1 + 1 + 1 + 1 + 1 + 1 + 1 + 1 + 1 + 1 + 1 + 1 + 1 + 1 + 1), .int .i64 (k + 1 + 1 + 3 * (x.Batch.Cmds.length : Int) + 1 + 1 + 1 + 1 + 1 + 1 + 1 + 1 + 1 + 1 + 1 + 1 + 1 + 1 + 1 + 1 + 1 + 1 + 1), .int .i64 (k + 1 + 1 + 3 * (x.Batch.Cmds.length : Int) + 1 + 1 + 1 + 1 + 1 + 1 + 1 + 1 + 1 + 1 + 1 + 1 + 1 + 1 + 1 + 1 + 1 + 1 + 1 + 1), .int .i64 (k + 1 + 1 + 3 * (x.Batch.Cmds.length : Int) + 1 + 1 + 1 + 1 + 1 + 1 + 1 + 1 + 1 + 1 + 1 + 1 + 1 + 1 + 1 + 1 + 1 + 1 + 1 + 1 + 1), .bool ((k + 1 + 1 + 3 * (x.Batch.Cmds.length : Int) + 1 + 1 + 1 + 1 + 1 + 1 + 1 + 1 + 1 + 1 + 1 + 1 + 1 + 1 + 1 + 1 + 1 + 1 + 1 + 1 + 1 + 1).tmod 3 == 0), .sl 2 (markSeens (k + 1 + 1 + 3 * (x.Batch.Cmds.length : Int) + 1 + 1 + 1 + 1 + 1 + 1 + 1 + 1 + 1 + 1 + 1 + 1 + 1 + 1 + 1 + 1 + 1 + 1 + 1 + 1 + 1 + 1 + 1) x.Reads.length), .sl 3 (markWrites (k + 1 + 1 + 3 * (x.Batch.Cmds.length : Int) + 1 + 1 + 1 + 1 + 1 + 1 + 1 + 1 + 1 + 1 + 1 + 1 + 1 + 1 + 1 + 1 + 1 + 1 + 1 + 1 + 1 + 1 + 1 + 2 * (x.Reads.length : Int)) x.Writes.length), .sl 2 (markRess (k + 1 + 1 + 3 * (x.Batch.Cmds.length : Int) + 1 + 1 + 1 + 1 + 1 + 1 + 1 + 1 + 1 + 1 + 1 + 1 + 1 + 1 + 1 + 1 + 1 + 1 + 1 + 1 + 1 + 1 + 1 + 2 * (x.Reads.length : Int) + 3 * (x.Writes.length : Int)) x.Res.length), .sl 1 (markInts (k + 1 + 1 + 3 * (x.Batch.Cmds.length : Int) + 1 + 1 + 1 + 1 + 1 + 1 + 1 + 1 + 1 + 1 + 1 + 1 + 1 + 1 + 1 + 1 + 1 + 1 + 1 + 1 + 1 + 1 + 1 + 2 * (x.Reads.length : Int) + 3 * (x.Writes.length : Int) + 2 * (x.Res.length : Int)) x.New.length), .sl 1 (markInts (k + 1 + 1 + 3 * (x.Batch.Cmds.length : Int) + 1 + 1 + 1 + 1 + 1 + 1 + 1 + 1 + 1 + 1 + 1 + 1 + 1 + 1 + 1 + 1 + 1 + 1 + 1 + 1 + 1 + 1 + 1 + 2 * (x.Reads.length : Int) + 3 * (x.Writes.length : Int) + 2 * (x.Res.length : Int) + 1 * (x.New.length : Int)) x.Held.length), .sl 1 (markInts (k + 1 + 1 + 3 * (x.Batch.Cmds.length : Int) + 1 + 1 + 1 + 1 + 1 + 1 + 1 + 1 + 1 + 1 + 1 + 1 + 1 + 1 + 1 + 1 + 1 + 1 + 1 + 1 + 1 + 1 + 1 + 2 * (x.Reads.length : Int) + 3 * (x.Writes.length : Int) + 2 * (x.Res.length : Int) + 1 * (x.New.length : Int) + 1 * (x.Held.length : Int)) x.Olds.length)]
def mrkTJobS : Int -> List TJob -> List (List D)
 | _, [] => []
 | k, x :: l => mrkTJob k x :: mrkTJobS (k + (cntTJob x : Nat)) l
theorem mrkTJobS_len : ∀ (l : List TJob) (k : Int), (mrkTJobS k l).length = l.length
 | [], _ => rfl
 | x :: l, k => by rw [mrkTJobS, List.length_cons, List.length_cons, mrkTJobS_len l]
theorem mrkTJobS_ne {l : List TJob} (h : l ≠ []) (k : Int) : mrkTJobS k l ≠ [] := by
 cases l with
 | nil => exact absurd rfl h
 | cons x l => simp [mrkTJobS]
theorem c40_e (l : List TJob) (hl : l.length <= 1048576) (hq : ∀ x ∈ l, x.sok) (k : Int) (hk0 : 0 <= k) (hk : k + (cntTJobS l : Int) <= 4611686018427387904) : Ctr prog 40 [.one (.own 0), .one (.dat (.int .i64 k))] [.vec 32 true (l.map encTJob)] (.one (.dat (.int .i64 (k + (cntTJobS l : Int))))) [.vec 32 true (mrkTJobS k l)] := by
 refine Ctr.of_body mixed func40 rfl (by kernel_rfl) (Nat.le_of_ble_eq_true rfl) (by simp [AV.Clean, AV.Clean1, Leaf.Clean, D.flat]) (by simp [AObj.Sep]) (by simp) ?_ (by simp [AV.Low, AV.Low1, Leaf.Low]) ?_
 ·intro o ho
  have : o = 0 := by simpa using ho
  subst this
  simp [Objs, Compat, mrkTJobS_len]
 show wpA _ _ _ (FinQ _ _ _ _ _) _
 refine evl ?_
 refine LoopK_intro (fun zn zs => ∃ (i : Nat) (A : List (List D)) (kk : Int), i <= l.length /\ zn = l.length - i /\ (A.length = i /\ mrkTJobS k l = A ++ mrkTJobS kk (l.drop i) /\ 0 <= kk /\ kk + (cntTJobS (l.drop i) : Int) = k + (cntTJobS l : Int)) /\ zs = mkSt [(5, .one (.dat (.int .i64 i))), (1, .one (.dat (.int .i64 kk))), (0, .one (.own 0))] [.vec 32 true (A ++ (l.drop i).map encTJob)]) l.length _
  (Ent.wk [0]) ⟨0, [], k, by omega, by omega, ⟨rfl, rfl, hk0, rfl⟩, rfl⟩ ?_
 rintro zn zs ⟨i, A, kk, hi, rfl, ⟨hA, hR2, hk1, hk2⟩, rfl⟩ K hK
 rcases Nat.lt_or_ge i l.length with hlt | hge
 ·have hd : decide ((i : Int) < ((l.length : Nat) : Int)) = true := decide_eq_true (by omega)
  have hw := wrap_succ hlt (show l.length <= maxLen by unfold maxLen; omega)
  have hqx := hq l[i] (List.getElem_mem hlt)
  rw [List.drop_eq_getElem_cons hlt] at hk2 hR2 ⊢
  rw [List.map_cons]
  generalize l[i] = x at hk2 hR2 hqx ⊢
  obtain ⟨⟨q0, _⟩, q1, q2, q3, q4, q5, q6, _⟩ := hqx
  rw [cntTJobS_cons] at hk2
  have hcx : cntTJob x = 25 + 3 * x.Batch.Cmds.length + 2 * x.Reads.length + 3 * x.Writes.length + 2 * x.Res.length + 1 * x.New.length + 1 * x.Held.length + 1 * x.Olds.length := rfl
  rw [mrkTJobS] at hR2
  have hBl : ((l.drop (i + 1)).map encTJob).length = l.length - (i + 1) := by simp
  have hl1 : ∀ y, (A ++ y :: (l.drop (i + 1)).map encTJob).length = l.length := fun y => by rw [List.length_append, List.length_cons, hBl]; omega
  obtain ⟨k1, hk1e⟩ : ∃ z, z = kk + 1 := ⟨_, rfl⟩
  have hw1 : IntKind.i64.wrap (kk + 1) = k1 := by rw [hk1e, IntKind.wrap_i64]; omega
  obtain ⟨k2, hk2e⟩ : ∃ z, z = k1 + 1 := ⟨_, rfl⟩
  have hw2 : IntKind.i64.wrap (k1 + 1) = k2 := by rw [hk2e, IntKind.wrap_i64]; omega
  obtain ⟨k3, hk3e⟩ : ∃ z, z = (k2 + 3 * (x.Batch.Cmds.length : Int)) + 1 := ⟨_, rfl⟩
  have hw3 : IntKind.i64.wrap ((k2 + 3 * (x.Batch.Cmds.length : Int)) + 1) = k3 := by rw [hk3e, IntKind.wrap_i64]; omega
  obtain ⟨k4, hk4e⟩ : ∃ z, z = k3 + 1 := ⟨_, rfl⟩
  have hw4 : IntKind.i64.wrap (k3 + 1) = k4 := by rw [hk4e, IntKind.wrap_i64]; omega
  obtain ⟨k5, hk5e⟩ : ∃ z, z = k4 + 1 := ⟨_, rfl⟩
  have hw5 : IntKind.i64.wrap (k4 + 1) = k5 := by rw [hk5e, IntKind.wrap_i64]; omega
  obtain ⟨k6, hk6e⟩ : ∃ z, z = k5 + 1 := ⟨_, rfl⟩
  have hw6 : IntKind.i64.wrap (k5 + 1) = k6 := by rw [hk6e, IntKind.wrap_i64]; omega
  obtain ⟨k7, hk7e⟩ : ∃ z, z = k6 + 1 := ⟨_, rfl⟩
  have hw7 : IntKind.i64.wrap (k6 + 1) = k7 := by rw [hk7e, IntKind.wrap_i64]; omega
  obtain ⟨k8, hk8e⟩ : ∃ z, z = k7 + 1 := ⟨_, rfl⟩
  have hw8 : IntKind.i64.wrap (k7 + 1) = k8 := by rw [hk8e, IntKind.wrap_i64]; omega
  obtain ⟨k9, hk9e⟩ : ∃ z, z = k8 + 1 := ⟨_, rfl⟩
  have hw9 : IntKind.i64.wrap (k8 + 1) = k9 := by rw [hk9e, IntKind.wrap_i64]; omega
  obtain ⟨k10, hk10e⟩ : ∃ z, z = k9 + 1 := ⟨_, rfl⟩
  have hw10 : IntKind.i64.wrap (k9 + 1) = k10 := by rw [hk10e, IntKind.wrap_i64]; omega
  obtain ⟨k11, hk11e⟩ : ∃ z, z = k10 + 1 := ⟨_, rfl⟩
  have hw11 : IntKind.i64.wrap (k10 + 1) = k11 := by rw [hk11e, IntKind.wrap_i64]; omega
  obtain ⟨k12, hk12e⟩ : ∃ z, z = k11 + 1 := ⟨_, rfl⟩
  have hw12 : IntKind.i64.wrap (k11 + 1) = k12 := by rw [hk12e, IntKind.wrap_i64]; omega
  obtain ⟨k13, hk13e⟩ : ∃ z, z = k12 + 1 := ⟨_, rfl⟩
  have hw13 : IntKind.i64.wrap (k12 + 1) = k13 := by rw [hk13e, IntKind.wrap_i64]; omega
  obtain ⟨k14, hk14e⟩ : ∃ z, z = k13 + 1 := ⟨_, rfl⟩
  have hw14 : IntKind.i64.wrap (k13 + 1) = k14 := by rw [hk14e, IntKind.wrap_i64]; omega
  obtain ⟨k15, hk15e⟩ : ∃ z, z = k14 + 1 := ⟨_, rfl⟩
  have hw15 : IntKind.i64.wrap (k14 + 1) = k15 := by rw [hk15e, IntKind.wrap_i64]; omega
  obtain ⟨k16, hk16e⟩ : ∃ z, z = k15 + 1 := ⟨_, rfl⟩
  have hw16 : IntKind.i64.wrap (k15 + 1) = k16 := by rw [hk16e, IntKind.wrap_i64]; omega
  obtain ⟨k17, hk17e⟩ : ∃ z, z = k16 + 1 := ⟨_, rfl⟩
  have hw17 : IntKind.i64.wrap (k16 + 1) = k17 := by rw [hk17e, IntKind.wrap_i64]; omega
  obtain ⟨k18, hk18e⟩ : ∃ z, z = k17 + 1 := ⟨_, rfl⟩
  have hw18 : IntKind.i64.wrap (k17 + 1) = k18 := by rw [hk18e, IntKind.wrap_i64]; omega
  obtain ⟨k19, hk19e⟩ : ∃ z, z = k18 + 1 := ⟨_, rfl⟩
  have hw19 : IntKind.i64.wrap (k18 + 1) = k19 := by rw [hk19e, IntKind.wrap_i64]; omega
  obtain ⟨k20, hk20e⟩ : ∃ z, z = k19 + 1 := ⟨_, rfl⟩
  have hw20 : IntKind.i64.wrap (k19 + 1) = k20 := by rw [hk20e, IntKind.wrap_i64]; omega
  obtain ⟨k21, hk21e⟩ : ∃ z, z = k20 + 1 := ⟨_, rfl⟩
  have hw21 : IntKind.i64.wrap (k20 + 1) = k21 := by rw [hk21e, IntKind.wrap_i64]; omega
  obtain ⟨k22, hk22e⟩ : ∃ z, z = k21 + 1 := ⟨_, rfl⟩
  have hw22 : IntKind.i64.wrap (k21 + 1) = k22 := by rw [hk22e, IntKind.wrap_i64]; omega
  obtain ⟨k23, hk23e⟩ : ∃ z, z = k22 + 1 := ⟨_, rfl⟩
  have hw23 : IntKind.i64.wrap (k22 + 1) = k23 := by rw [hk23e, IntKind.wrap_i64]; omega
  obtain ⟨k24, hk24e⟩ : ∃ z, z = k23 + 1 := ⟨_, rfl⟩
  have hw24 : IntKind.i64.wrap (k23 + 1) = k24 := by rw [hk24e, IntKind.wrap_i64]; omega
  obtain ⟨k25, hk25e⟩ : ∃ z, z = k24 + 1 := ⟨_, rfl⟩
  have hw25 : IntKind.i64.wrap (k24 + 1) = k25 := by rw [hk25e, IntKind.wrap_i64]; omega
  have hrow : mrkTJob kk x = [.bool ((kk).tmod 3 == 0), .bool ((k1).tmod 3 == 0), .sl 3 (markCmds k2 x.Batch.Cmds.length), .int .i64 ((k2 + 3 * (x.Batch.Cmds.length : Int))), .int .i64 (k3), .int .i64 (k4), .int .i64 (k5), .int .i64 (k6), .int .i64 (k7), .int .i64 (k8), .int .i64 (k9), .int .i64 (k10), .int .i64 (k11), .int .i64 (k12), .bool ((k13).tmod 3 == 0), .int .i64 (k14), .int .i64 (k15), .int .i64 (k16), .int .i64 (k17), .int .i64 (k18), .int .i64 (k19), .int .i64 (k20), .int .i64 (k21), .int .i64 (k22), .int .i64 (k23), .bool ((k24).tmod 3 == 0), .sl 2 (markSeens k25 x.Reads.length), .sl 3 (markWrites ((k25 + 2 * (x.Reads.length : Int))) x.Writes.length), .sl 2 (markRess (((k25 + 2 * (x.Reads.length : Int)) + 3 * (x.Writes.length : Int))) x.Res.length), .sl 1 (markInts ((((k25 + 2 * (x.Reads.length : Int)) + 3 * (x.Writes.length : Int)) + 2 * (x.Res.length : Int))) x.New.length), .sl 1 (markInts (((((k25 + 2 * (x.Reads.length : Int)) + 3 * (x.Writes.length : Int)) + 2 * (x.Res.length : Int)) + 1 * (x.New.length : Int))) x.Held.length), .sl 1 (markInts ((((((k25 + 2 * (x.Reads.length : Int)) + 3 * (x.Writes.length : Int)) + 2 * (x.Res.length : Int)) + 1 * (x.New.length : Int)) + 1 * (x.Held.length : Int))) x.Olds.length)] := by subst hk1e hk2e hk3e hk4e hk5e hk6e hk7e hk8e hk9e hk10e hk11e hk12e hk13e hk14e hk15e hk16e hk17e hk18e hk19e hk20e hk21e hk22e hk23e hk24e hk25e; rfl
  have hEE : kk + ((cntTJob x : Nat) : Int) = ((((((k25 + 2 * (x.Reads.length : Int)) + 3 * (x.Writes.length : Int)) + 2 * (x.Res.length : Int)) + 1 * (x.New.length : Int)) + 1 * (x.Held.length : Int)) + 1 * (x.Olds.length : Int)) := by omega
  rw [hrow, hEE] at hR2
  refine sv15 ?_
  refine scs ?_
  intro v0
  try (refine sv15 ?_)
  refine scs ?_
  refine CallK_os [1] e99 (by simp [osOk, St.obj, find]) (c99_e x.Batch.Cmds (k2) (by omega) (by omega)) rfl ?_
  refine sv15 ?_
  refine scs ?_
  intro v1
  try (refine sv15 ?_)
  refine scs ?_
  refine CallK_os [3] e104 (by simp [osOk, St.obj, find]) (c104_e x.Reads (k25) (by omega) (by omega)) rfl ?_
  refine sv15 ?_
  refine scs ?_
  intro v2
  try (refine sv15 ?_)
  refine scs ?_
  refine CallK_os [5] e105 (by simp [osOk, St.obj, find]) (c105_e x.Writes ((k25 + 2 * (x.Reads.length : Int))) (by omega) (by omega)) rfl ?_
  refine sv15 ?_
  refine scs ?_
  intro v3
  try (refine sv15 ?_)
  refine scs ?_
  refine CallK_os [7] e106 (by simp [osOk, St.obj, find]) (c106_e x.Res (((k25 + 2 * (x.Reads.length : Int)) + 3 * (x.Writes.length : Int))) (by omega) (by omega)) rfl ?_
  refine sv15 ?_
  refine scs ?_
  intro v4
  try (refine sv15 ?_)
  refine scs ?_
  refine CallK_os [9] e103 (by simp [osOk, St.obj, find]) (c103_e x.New ((((k25 + 2 * (x.Reads.length : Int)) + 3 * (x.Writes.length : Int)) + 2 * (x.Res.length : Int))) (by omega) (by omega)) rfl ?_
  refine sv15 ?_
  refine scs ?_
  intro v5
  try (refine sv15 ?_)
  refine scs ?_
  refine CallK_os [11] e103 (by simp [osOk, St.obj, find]) (c103_e x.Held (((((k25 + 2 * (x.Reads.length : Int)) + 3 * (x.Writes.length : Int)) + 2 * (x.Res.length : Int)) + 1 * (x.New.length : Int))) (by omega) (by omega)) rfl ?_
  refine sv15 ?_
  refine scs ?_
  intro v6
  try (refine sv15 ?_)
  refine scs ?_
  refine CallK_os [13] e103 (by simp [osOk, St.obj, find]) (c103_e x.Olds ((((((k25 + 2 * (x.Reads.length : Int)) + 3 * (x.Writes.length : Int)) + 2 * (x.Res.length : Int)) + 1 * (x.New.length : Int)) + 1 * (x.Held.length : Int))) (by omega) (by omega)) rfl ?_
  refine sv15 ?_
  refine scs ?_
  apply hK
  refine ⟨l.length - (i + 1), _, by omega, Ent.trans (closeMid (k := 0) (n := 1) (p := 2) (j := 2) (v := v0) (s2 := 3) (rs := markCmds (k2) x.Batch.Cmds.length) hA rfl (by decide) rfl rfl rfl (by decide)) (Ent.trans (closeMid (k := 0) (n := 3) (p := 4) (j := 26) (v := v1) (s2 := 2) (rs := markSeens (k25) x.Reads.length) hA rfl (by decide) rfl rfl rfl (by decide)) (Ent.trans (closeMid (k := 0) (n := 5) (p := 6) (j := 27) (v := v2) (s2 := 3) (rs := markWrites ((k25 + 2 * (x.Reads.length : Int))) x.Writes.length) hA rfl (by decide) rfl rfl rfl (by decide)) (Ent.trans (closeMid (k := 0) (n := 7) (p := 8) (j := 28) (v := v3) (s2 := 2) (rs := markRess (((k25 + 2 * (x.Reads.length : Int)) + 3 * (x.Writes.length : Int))) x.Res.length) hA rfl (by decide) rfl rfl rfl (by decide)) (Ent.trans (closeMid (k := 0) (n := 9) (p := 10) (j := 29) (v := v4) (s2 := 1) (rs := markInts ((((k25 + 2 * (x.Reads.length : Int)) + 3 * (x.Writes.length : Int)) + 2 * (x.Res.length : Int))) x.New.length) hA rfl (by decide) rfl rfl rfl (by decide)) (Ent.trans (closeMid (k := 0) (n := 11) (p := 12) (j := 30) (v := v5) (s2 := 1) (rs := markInts (((((k25 + 2 * (x.Reads.length : Int)) + 3 * (x.Writes.length : Int)) + 2 * (x.Res.length : Int)) + 1 * (x.New.length : Int))) x.Held.length) hA rfl (by decide) rfl rfl rfl (by decide)) (Ent.trans (closeMid (k := 0) (n := 13) (p := 14) (j := 31) (v := v6) (s2 := 1) (rs := markInts ((((((k25 + 2 * (x.Reads.length : Int)) + 3 * (x.Writes.length : Int)) + 2 * (x.Res.length : Int)) + 1 * (x.New.length : Int)) + 1 * (x.Held.length : Int))) x.Olds.length) hA rfl (by decide) rfl rfl rfl (by decide)) (?_))))))), i + 1, A ++ [[.bool ((kk).tmod 3 == 0), .bool ((k1).tmod 3 == 0), .sl 3 (markCmds k2 x.Batch.Cmds.length), .int .i64 ((k2 + 3 * (x.Batch.Cmds.length : Int))), .int .i64 (k3), .int .i64 (k4), .int .i64 (k5), .int .i64 (k6), .int .i64 (k7), .int .i64 (k8), .int .i64 (k9), .int .i64 (k10), .int .i64 (k11), .int .i64 (k12), .bool ((k13).tmod 3 == 0), .int .i64 (k14), .int .i64 (k15), .int .i64 (k16), .int .i64 (k17), .int .i64 (k18), .int .i64 (k19), .int .i64 (k20), .int .i64 (k21), .int .i64 (k22), .int .i64 (k23), .bool ((k24).tmod 3 == 0), .sl 2 (markSeens k25 x.Reads.length), .sl 3 (markWrites ((k25 + 2 * (x.Reads.length : Int))) x.Writes.length), .sl 2 (markRess (((k25 + 2 * (x.Reads.length : Int)) + 3 * (x.Writes.length : Int))) x.Res.length), .sl 1 (markInts ((((k25 + 2 * (x.Reads.length : Int)) + 3 * (x.Writes.length : Int)) + 2 * (x.Res.length : Int))) x.New.length), .sl 1 (markInts (((((k25 + 2 * (x.Reads.length : Int)) + 3 * (x.Writes.length : Int)) + 2 * (x.Res.length : Int)) + 1 * (x.New.length : Int))) x.Held.length), .sl 1 (markInts ((((((k25 + 2 * (x.Reads.length : Int)) + 3 * (x.Writes.length : Int)) + 2 * (x.Res.length : Int)) + 1 * (x.New.length : Int)) + 1 * (x.Held.length : Int))) x.Olds.length)]], ((((((k25 + 2 * (x.Reads.length : Int)) + 3 * (x.Writes.length : Int)) + 2 * (x.Res.length : Int)) + 1 * (x.New.length : Int)) + 1 * (x.Held.length : Int)) + 1 * (x.Olds.length : Int)), by omega, rfl, ⟨by simp [hA], by rw [hR2, List.append_assoc]; rfl, by omega, by omega⟩, rfl⟩
  refine Ent.wk [0] (h4 := objsLe_one (Nat.zero_lt_succ _) ?_) (h5 := ?_)
  ·show AObj.vec 32 true _ = AObj.vec 32 true _
   rw [List.append_assoc]
   rfl
  ·simp [closeMd, St.setObj, envLe, find, AV.renF, AV.renF1, Leaf.renF, hw]
 ·have hge' : i = l.length := by omega
  subst hge'
  rw [List.drop_length] at hk2 hR2 ⊢
  rw [mrkTJobS, List.append_nil] at hR2
  have hkk : kk = k + (cntTJobS l : Int) := by rw [<- hk2]; simp [cntTJobS]
  have hd : decide (((l.length : Nat) : Int) < ((l.length : Nat) : Int)) = false := by simp
  rw [List.map_nil, List.append_nil]
  refine sv9 ?_
  apply hK
  refine evl ?_
  rw [hkk, hR2]
  refine Fin.nt results40 [0] ?_ ?_ ?_ <;> try trivial
  all_goals exact entd
theorem c40_f (l : List TJob) (hl : l.length <= 1048576) (hq : ∀ x ∈ l, x.sok) (k : Int) (hk0 : 0 <= k) (hk : k + (cntTJobS l : Int) <= 4611686018427387904) : Ctr prog 40 [.one (.own 0), .one (.dat (.int .i64 k))] [lent 32 (l.map encTJob)] (.one (.dat (.int .i64 (k + (cntTJobS l : Int))))) [lent 32 (mrkTJobS k l)] := by
 cases l with
 | cons x l =>
  rw [lent_ne (mrkTJobS_ne (by simp) k)]
  exact c40_e (x :: l) hl hq k hk0 hk
 | nil =>
  show Ctr prog 40 [.one (.own 0), .one (.dat (.int .i64 k))] [.frz 32 []] (.one (.dat (.int .i64 (k + (cntTJobS ([] : List TJob) : Int))))) [.frz 32 []]
  rw [show k + (cntTJobS ([] : List TJob) : Int) = k by simp [cntTJobS]]
  refine Ctr.bk mixed func40 rfl ?_
  refine evl ?_
  refine LoopK_intro (fun zn zs => zn = 0 /\ zs = mkSt [(5, .one (.dat (.int .i64 0))), (1, .one (.dat (.int .i64 k))), (0, .one (.own 0))] [.frz 32 []]) 0 _ (Ent.wk [0]) ⟨rfl, rfl⟩ ?_
  rintro zn zs ⟨rfl, rfl⟩ K hK
  have hd0 : decide ((0 : Int) < ((0 : Nat) : Int)) = false := rfl
  refine sv5 ?_
  apply hK
  refine evl ?_
  refine Fin.nt results40 [0] ?_ ?_ ?_ <;> try trivial
  all_goals exact entd
theorem c44 (l : List TJob) (hl : l.length <= 1048576) (hq : ∀ x ∈ l, x.sok) (k : Int) (hk0 : 0 <= k) (hk : k + (cntTJobS l : Int) <= 4611686018427387904) : Ctr prog 44 [.one (.dat (.sl 32 (mrkTJobS k l))), .one (.dat (.int .i64 k))] [] (.one (.dat (.int .i64 (k + (cntTJobS l : Int))))) [] := by
 obtain ⟨R, hR⟩ : ∃ R, R = mrkTJobS k l := ⟨_, rfl⟩
 have hRl : R.length = l.length := by rw [hR, mrkTJobS_len]
 rw [<- hR]
 refine Ctr.bd mixed func44 rfl ?_
 refine evl ?_
 refine LoopK_intro (fun zn zs => ∃ (i : Nat) (A : List (List D)) (kk : Int), i <= l.length /\ zn = l.length - i /\ (A.length = i /\ R = A ++ mrkTJobS kk (l.drop i) /\ 0 <= kk /\ kk + (cntTJobS (l.drop i) : Int) = k + (cntTJobS l : Int)) /\ zs = mkSt [(5, .one (.dat (.int .i64 i))), (1, .one (.dat (.int .i64 kk))), (0, .one (.dat (.sl 32 R)))] []) l.length _
  (Ent.wk []) ⟨0, [], k, by omega, by omega, ⟨rfl, hR, hk0, rfl⟩, rfl⟩ ?_
 rintro zn zs ⟨i, A, kk, hi, rfl, ⟨hA, hR2, hk1, hk2⟩, rfl⟩ K hK
 rcases Nat.lt_or_ge i l.length with hlt | hge
 ·have hd : decide ((i : Int) < ((l.length : Nat) : Int)) = true := decide_eq_true (by omega)
  have hw := wrap_succ hlt (show l.length <= maxLen by unfold maxLen; omega)
  have hqx := hq l[i] (List.getElem_mem hlt)
  rw [List.drop_eq_getElem_cons hlt] at hk2 hR2
  generalize l[i] = x at hk2 hR2 hqx
  obtain ⟨⟨q0, _⟩, q1, q2, q3, q4, q5, q6, _⟩ := hqx
  rw [cntTJobS_cons] at hk2
  have hcx : cntTJob x = 25 + 3 * x.Batch.Cmds.length + 2 * x.Reads.length + 3 * x.Writes.length + 2 * x.Res.length + 1 * x.New.length + 1 * x.Held.length + 1 * x.Olds.length := rfl
  rw [mrkTJobS] at hR2
  obtain ⟨k1, hk1e⟩ : ∃ z, z = kk + 1 := ⟨_, rfl⟩
  have hw1 : IntKind.i64.wrap (kk + 1) = k1 := by rw [hk1e, IntKind.wrap_i64]; omega
  obtain ⟨k2, hk2e⟩ : ∃ z, z = k1 + 1 := ⟨_, rfl⟩
  have hw2 : IntKind.i64.wrap (k1 + 1) = k2 := by rw [hk2e, IntKind.wrap_i64]; omega
  have hn1 : decide ((k2 + 3 * (x.Batch.Cmds.length : Int)) < 0) = false := decide_eq_false (by omega)
  obtain ⟨k3, hk3e⟩ : ∃ z, z = (k2 + 3 * (x.Batch.Cmds.length : Int)) + 1 := ⟨_, rfl⟩
  have hw3 : IntKind.i64.wrap ((k2 + 3 * (x.Batch.Cmds.length : Int)) + 1) = k3 := by rw [hk3e, IntKind.wrap_i64]; omega
  obtain ⟨k4, hk4e⟩ : ∃ z, z = k3 + 1 := ⟨_, rfl⟩
  have hw4 : IntKind.i64.wrap (k3 + 1) = k4 := by rw [hk4e, IntKind.wrap_i64]; omega
  obtain ⟨k5, hk5e⟩ : ∃ z, z = k4 + 1 := ⟨_, rfl⟩
  have hw5 : IntKind.i64.wrap (k4 + 1) = k5 := by rw [hk5e, IntKind.wrap_i64]; omega
  obtain ⟨k6, hk6e⟩ : ∃ z, z = k5 + 1 := ⟨_, rfl⟩
  have hw6 : IntKind.i64.wrap (k5 + 1) = k6 := by rw [hk6e, IntKind.wrap_i64]; omega
  obtain ⟨k7, hk7e⟩ : ∃ z, z = k6 + 1 := ⟨_, rfl⟩
  have hw7 : IntKind.i64.wrap (k6 + 1) = k7 := by rw [hk7e, IntKind.wrap_i64]; omega
  obtain ⟨k8, hk8e⟩ : ∃ z, z = k7 + 1 := ⟨_, rfl⟩
  have hw8 : IntKind.i64.wrap (k7 + 1) = k8 := by rw [hk8e, IntKind.wrap_i64]; omega
  obtain ⟨k9, hk9e⟩ : ∃ z, z = k8 + 1 := ⟨_, rfl⟩
  have hw9 : IntKind.i64.wrap (k8 + 1) = k9 := by rw [hk9e, IntKind.wrap_i64]; omega
  obtain ⟨k10, hk10e⟩ : ∃ z, z = k9 + 1 := ⟨_, rfl⟩
  have hw10 : IntKind.i64.wrap (k9 + 1) = k10 := by rw [hk10e, IntKind.wrap_i64]; omega
  obtain ⟨k11, hk11e⟩ : ∃ z, z = k10 + 1 := ⟨_, rfl⟩
  have hw11 : IntKind.i64.wrap (k10 + 1) = k11 := by rw [hk11e, IntKind.wrap_i64]; omega
  obtain ⟨k12, hk12e⟩ : ∃ z, z = k11 + 1 := ⟨_, rfl⟩
  have hw12 : IntKind.i64.wrap (k11 + 1) = k12 := by rw [hk12e, IntKind.wrap_i64]; omega
  obtain ⟨k13, hk13e⟩ : ∃ z, z = k12 + 1 := ⟨_, rfl⟩
  have hw13 : IntKind.i64.wrap (k12 + 1) = k13 := by rw [hk13e, IntKind.wrap_i64]; omega
  obtain ⟨k14, hk14e⟩ : ∃ z, z = k13 + 1 := ⟨_, rfl⟩
  have hw14 : IntKind.i64.wrap (k13 + 1) = k14 := by rw [hk14e, IntKind.wrap_i64]; omega
  obtain ⟨k15, hk15e⟩ : ∃ z, z = k14 + 1 := ⟨_, rfl⟩
  have hw15 : IntKind.i64.wrap (k14 + 1) = k15 := by rw [hk15e, IntKind.wrap_i64]; omega
  obtain ⟨k16, hk16e⟩ : ∃ z, z = k15 + 1 := ⟨_, rfl⟩
  have hw16 : IntKind.i64.wrap (k15 + 1) = k16 := by rw [hk16e, IntKind.wrap_i64]; omega
  obtain ⟨k17, hk17e⟩ : ∃ z, z = k16 + 1 := ⟨_, rfl⟩
  have hw17 : IntKind.i64.wrap (k16 + 1) = k17 := by rw [hk17e, IntKind.wrap_i64]; omega
  obtain ⟨k18, hk18e⟩ : ∃ z, z = k17 + 1 := ⟨_, rfl⟩
  have hw18 : IntKind.i64.wrap (k17 + 1) = k18 := by rw [hk18e, IntKind.wrap_i64]; omega
  obtain ⟨k19, hk19e⟩ : ∃ z, z = k18 + 1 := ⟨_, rfl⟩
  have hw19 : IntKind.i64.wrap (k18 + 1) = k19 := by rw [hk19e, IntKind.wrap_i64]; omega
  obtain ⟨k20, hk20e⟩ : ∃ z, z = k19 + 1 := ⟨_, rfl⟩
  have hw20 : IntKind.i64.wrap (k19 + 1) = k20 := by rw [hk20e, IntKind.wrap_i64]; omega
  obtain ⟨k21, hk21e⟩ : ∃ z, z = k20 + 1 := ⟨_, rfl⟩
  have hw21 : IntKind.i64.wrap (k20 + 1) = k21 := by rw [hk21e, IntKind.wrap_i64]; omega
  obtain ⟨k22, hk22e⟩ : ∃ z, z = k21 + 1 := ⟨_, rfl⟩
  have hw22 : IntKind.i64.wrap (k21 + 1) = k22 := by rw [hk22e, IntKind.wrap_i64]; omega
  obtain ⟨k23, hk23e⟩ : ∃ z, z = k22 + 1 := ⟨_, rfl⟩
  have hw23 : IntKind.i64.wrap (k22 + 1) = k23 := by rw [hk23e, IntKind.wrap_i64]; omega
  obtain ⟨k24, hk24e⟩ : ∃ z, z = k23 + 1 := ⟨_, rfl⟩
  have hw24 : IntKind.i64.wrap (k23 + 1) = k24 := by rw [hk24e, IntKind.wrap_i64]; omega
  obtain ⟨k25, hk25e⟩ : ∃ z, z = k24 + 1 := ⟨_, rfl⟩
  have hw25 : IntKind.i64.wrap (k24 + 1) = k25 := by rw [hk25e, IntKind.wrap_i64]; omega
  have hn2 : decide ((k25 + 2 * (x.Reads.length : Int)) < 0) = false := decide_eq_false (by omega)
  have hn3 : decide (((k25 + 2 * (x.Reads.length : Int)) + 3 * (x.Writes.length : Int)) < 0) = false := decide_eq_false (by omega)
  have hn4 : decide ((((k25 + 2 * (x.Reads.length : Int)) + 3 * (x.Writes.length : Int)) + 2 * (x.Res.length : Int)) < 0) = false := decide_eq_false (by omega)
  have hn5 : decide (((((k25 + 2 * (x.Reads.length : Int)) + 3 * (x.Writes.length : Int)) + 2 * (x.Res.length : Int)) + 1 * (x.New.length : Int)) < 0) = false := decide_eq_false (by omega)
  have hn6 : decide ((((((k25 + 2 * (x.Reads.length : Int)) + 3 * (x.Writes.length : Int)) + 2 * (x.Res.length : Int)) + 1 * (x.New.length : Int)) + 1 * (x.Held.length : Int)) < 0) = false := decide_eq_false (by omega)
  have hn7 : decide (((((((k25 + 2 * (x.Reads.length : Int)) + 3 * (x.Writes.length : Int)) + 2 * (x.Res.length : Int)) + 1 * (x.New.length : Int)) + 1 * (x.Held.length : Int)) + 1 * (x.Olds.length : Int)) < 0) = false := decide_eq_false (by omega)
  have hrow : mrkTJob kk x = [.bool ((kk).tmod 3 == 0), .bool ((k1).tmod 3 == 0), .sl 3 (markCmds k2 x.Batch.Cmds.length), .int .i64 ((k2 + 3 * (x.Batch.Cmds.length : Int))), .int .i64 (k3), .int .i64 (k4), .int .i64 (k5), .int .i64 (k6), .int .i64 (k7), .int .i64 (k8), .int .i64 (k9), .int .i64 (k10), .int .i64 (k11), .int .i64 (k12), .bool ((k13).tmod 3 == 0), .int .i64 (k14), .int .i64 (k15), .int .i64 (k16), .int .i64 (k17), .int .i64 (k18), .int .i64 (k19), .int .i64 (k20), .int .i64 (k21), .int .i64 (k22), .int .i64 (k23), .bool ((k24).tmod 3 == 0), .sl 2 (markSeens k25 x.Reads.length), .sl 3 (markWrites ((k25 + 2 * (x.Reads.length : Int))) x.Writes.length), .sl 2 (markRess (((k25 + 2 * (x.Reads.length : Int)) + 3 * (x.Writes.length : Int))) x.Res.length), .sl 1 (markInts ((((k25 + 2 * (x.Reads.length : Int)) + 3 * (x.Writes.length : Int)) + 2 * (x.Res.length : Int))) x.New.length), .sl 1 (markInts (((((k25 + 2 * (x.Reads.length : Int)) + 3 * (x.Writes.length : Int)) + 2 * (x.Res.length : Int)) + 1 * (x.New.length : Int))) x.Held.length), .sl 1 (markInts ((((((k25 + 2 * (x.Reads.length : Int)) + 3 * (x.Writes.length : Int)) + 2 * (x.Res.length : Int)) + 1 * (x.New.length : Int)) + 1 * (x.Held.length : Int))) x.Olds.length)] := by subst hk1e hk2e hk3e hk4e hk5e hk6e hk7e hk8e hk9e hk10e hk11e hk12e hk13e hk14e hk15e hk16e hk17e hk18e hk19e hk20e hk21e hk22e hk23e hk24e hk25e; rfl
  have hEE : kk + ((cntTJob x : Nat) : Int) = ((((((k25 + 2 * (x.Reads.length : Int)) + 3 * (x.Writes.length : Int)) + 2 * (x.Res.length : Int)) + 1 * (x.New.length : Int)) + 1 * (x.Held.length : Int)) + 1 * (x.Olds.length : Int)) := by omega
  rw [hrow, hEE] at hR2
  have hg : R.getD i [] = [.bool ((kk).tmod 3 == 0), .bool ((k1).tmod 3 == 0), .sl 3 (markCmds k2 x.Batch.Cmds.length), .int .i64 ((k2 + 3 * (x.Batch.Cmds.length : Int))), .int .i64 (k3), .int .i64 (k4), .int .i64 (k5), .int .i64 (k6), .int .i64 (k7), .int .i64 (k8), .int .i64 (k9), .int .i64 (k10), .int .i64 (k11), .int .i64 (k12), .bool ((k13).tmod 3 == 0), .int .i64 (k14), .int .i64 (k15), .int .i64 (k16), .int .i64 (k17), .int .i64 (k18), .int .i64 (k19), .int .i64 (k20), .int .i64 (k21), .int .i64 (k22), .int .i64 (k23), .bool ((k24).tmod 3 == 0), .sl 2 (markSeens k25 x.Reads.length), .sl 3 (markWrites ((k25 + 2 * (x.Reads.length : Int))) x.Writes.length), .sl 2 (markRess (((k25 + 2 * (x.Reads.length : Int)) + 3 * (x.Writes.length : Int))) x.Res.length), .sl 1 (markInts ((((k25 + 2 * (x.Reads.length : Int)) + 3 * (x.Writes.length : Int)) + 2 * (x.Res.length : Int))) x.New.length), .sl 1 (markInts (((((k25 + 2 * (x.Reads.length : Int)) + 3 * (x.Writes.length : Int)) + 2 * (x.Res.length : Int)) + 1 * (x.New.length : Int))) x.Held.length), .sl 1 (markInts ((((((k25 + 2 * (x.Reads.length : Int)) + 3 * (x.Writes.length : Int)) + 2 * (x.Res.length : Int)) + 1 * (x.New.length : Int)) + 1 * (x.Held.length : Int))) x.Olds.length)] := by rw [hR2, getD_mid hA]
  refine sv16 ?_
  refine scs ?_
  refine ck e111 (c111 x.Batch.Cmds.length (k2) (by omega) (by omega)) rfl ?_
  refine sv16 ?_
  refine scs ?_
  refine ck e112 (c112 x.Reads.length (k25) (by omega) (by omega)) rfl ?_
  refine sv16 ?_
  refine scs ?_
  refine ck e113 (c113 x.Writes.length ((k25 + 2 * (x.Reads.length : Int))) (by omega) (by omega)) rfl ?_
  refine sv16 ?_
  refine scs ?_
  refine ck e114 (c114 x.Res.length (((k25 + 2 * (x.Reads.length : Int)) + 3 * (x.Writes.length : Int))) (by omega) (by omega)) rfl ?_
  refine sv16 ?_
  refine scs ?_
  refine ck e110 (c110 x.New.length ((((k25 + 2 * (x.Reads.length : Int)) + 3 * (x.Writes.length : Int)) + 2 * (x.Res.length : Int))) (by omega) (by omega)) rfl ?_
  refine sv16 ?_
  refine scs ?_
  refine ck e110 (c110 x.Held.length (((((k25 + 2 * (x.Reads.length : Int)) + 3 * (x.Writes.length : Int)) + 2 * (x.Res.length : Int)) + 1 * (x.New.length : Int))) (by omega) (by omega)) rfl ?_
  refine sv16 ?_
  refine scs ?_
  refine ck e110 (c110 x.Olds.length ((((((k25 + 2 * (x.Reads.length : Int)) + 3 * (x.Writes.length : Int)) + 2 * (x.Res.length : Int)) + 1 * (x.New.length : Int)) + 1 * (x.Held.length : Int))) (by omega) (by omega)) rfl ?_
  refine sv16 ?_
  refine scs ?_
  apply hK
  exact ⟨l.length - (i + 1), _, by omega, Ent.wk [], i + 1, A ++ [[.bool ((kk).tmod 3 == 0), .bool ((k1).tmod 3 == 0), .sl 3 (markCmds k2 x.Batch.Cmds.length), .int .i64 ((k2 + 3 * (x.Batch.Cmds.length : Int))), .int .i64 (k3), .int .i64 (k4), .int .i64 (k5), .int .i64 (k6), .int .i64 (k7), .int .i64 (k8), .int .i64 (k9), .int .i64 (k10), .int .i64 (k11), .int .i64 (k12), .bool ((k13).tmod 3 == 0), .int .i64 (k14), .int .i64 (k15), .int .i64 (k16), .int .i64 (k17), .int .i64 (k18), .int .i64 (k19), .int .i64 (k20), .int .i64 (k21), .int .i64 (k22), .int .i64 (k23), .bool ((k24).tmod 3 == 0), .sl 2 (markSeens k25 x.Reads.length), .sl 3 (markWrites ((k25 + 2 * (x.Reads.length : Int))) x.Writes.length), .sl 2 (markRess (((k25 + 2 * (x.Reads.length : Int)) + 3 * (x.Writes.length : Int))) x.Res.length), .sl 1 (markInts ((((k25 + 2 * (x.Reads.length : Int)) + 3 * (x.Writes.length : Int)) + 2 * (x.Res.length : Int))) x.New.length), .sl 1 (markInts (((((k25 + 2 * (x.Reads.length : Int)) + 3 * (x.Writes.length : Int)) + 2 * (x.Res.length : Int)) + 1 * (x.New.length : Int))) x.Held.length), .sl 1 (markInts ((((((k25 + 2 * (x.Reads.length : Int)) + 3 * (x.Writes.length : Int)) + 2 * (x.Res.length : Int)) + 1 * (x.New.length : Int)) + 1 * (x.Held.length : Int))) x.Olds.length)]], ((((((k25 + 2 * (x.Reads.length : Int)) + 3 * (x.Writes.length : Int)) + 2 * (x.Res.length : Int)) + 1 * (x.New.length : Int)) + 1 * (x.Held.length : Int)) + 1 * (x.Olds.length : Int)), by omega, rfl, ⟨by simp [hA], by rw [hR2, List.append_assoc]; rfl, by omega, by omega⟩, rfl⟩
 ·have hge' : i = l.length := by omega
  subst hge'
  rw [List.drop_length] at hk2
  have hkk : kk = k + (cntTJobS l : Int) := by rw [<- hk2]; simp [cntTJobS]
  have hd : decide (((l.length : Nat) : Int) < ((l.length : Nat) : Int)) = false := by simp
  refine sv10 ?_
  apply hK
  refine evl ?_
  rw [hkk]
  refine Fin.nt results44 [] ?_ ?_ ?_ <;> try trivial
def mrkTEv (k : Int) (x : TEv) : List D := [.int .i64 (k), .int .i64 (k + 1), .int .i64 (k + 1 + 1), .int .i64 (k + 1 + 1 + 1), .sl 3 (markCmds (k + 1 + 1 + 1 + 1) x.Cmds.length), .sl 2 (markRess (k + 1 + 1 + 1 + 1 + 3 * (x.Cmds.length : Int)) x.Res.length)]
def mrkTEvS : Int -> List TEv -> List (List D)
 | _, [] => []
 | k, x :: l => mrkTEv k x :: mrkTEvS (k + (cntTEv x : Nat)) l
theorem mrkTEvS_len : ∀ (l : List TEv) (k : Int), (mrkTEvS k l).length = l.length
 | [], _ => rfl
 | x :: l, k => by rw [mrkTEvS, List.length_cons, List.length_cons, mrkTEvS_len l]
theorem mrkTEvS_ne {l : List TEv} (h : l ≠ []) (k : Int) : mrkTEvS k l ≠ [] := by
 cases l with
 | nil => exact absurd rfl h
 | cons x l => simp [mrkTEvS]
theorem c41_e (l : List TEv) (hl : l.length <= 1048576) (hq : ∀ x ∈ l, x.sok) (k : Int) (hk0 : 0 <= k) (hk : k + (cntTEvS l : Int) <= 4611686018427387904) : Ctr prog 41 [.one (.own 0), .one (.dat (.int .i64 k))] [.vec 6 true (l.map encTEv)] (.one (.dat (.int .i64 (k + (cntTEvS l : Int))))) [.vec 6 true (mrkTEvS k l)] := by
 refine Ctr.of_body mixed func41 rfl (by kernel_rfl) (Nat.le_of_ble_eq_true rfl) (by simp [AV.Clean, AV.Clean1, Leaf.Clean, D.flat]) (by simp [AObj.Sep]) (by simp) ?_ (by simp [AV.Low, AV.Low1, Leaf.Low]) ?_
 ·intro o ho
  have : o = 0 := by simpa using ho
  subst this
  simp [Objs, Compat, mrkTEvS_len]
 show wpA _ _ _ (FinQ _ _ _ _ _) _
 refine evl ?_
 refine LoopK_intro (fun zn zs => ∃ (i : Nat) (A : List (List D)) (kk : Int), i <= l.length /\ zn = l.length - i /\ (A.length = i /\ mrkTEvS k l = A ++ mrkTEvS kk (l.drop i) /\ 0 <= kk /\ kk + (cntTEvS (l.drop i) : Int) = k + (cntTEvS l : Int)) /\ zs = mkSt [(5, .one (.dat (.int .i64 i))), (1, .one (.dat (.int .i64 kk))), (0, .one (.own 0))] [.vec 6 true (A ++ (l.drop i).map encTEv)]) l.length _
  (Ent.wk [0]) ⟨0, [], k, by omega, by omega, ⟨rfl, rfl, hk0, rfl⟩, rfl⟩ ?_
 rintro zn zs ⟨i, A, kk, hi, rfl, ⟨hA, hR2, hk1, hk2⟩, rfl⟩ K hK
 rcases Nat.lt_or_ge i l.length with hlt | hge
 ·have hd : decide ((i : Int) < ((l.length : Nat) : Int)) = true := decide_eq_true (by omega)
  have hw := wrap_succ hlt (show l.length <= maxLen by unfold maxLen; omega)
  have hqx := hq l[i] (List.getElem_mem hlt)
  rw [List.drop_eq_getElem_cons hlt] at hk2 hR2 ⊢
  rw [List.map_cons]
  generalize l[i] = x at hk2 hR2 hqx ⊢
  obtain ⟨q0, q1, _⟩ := hqx
  rw [cntTEvS_cons] at hk2
  have hcx : cntTEv x = 4 + 3 * x.Cmds.length + 2 * x.Res.length := rfl
  rw [mrkTEvS] at hR2
  have hBl : ((l.drop (i + 1)).map encTEv).length = l.length - (i + 1) := by simp
  have hl1 : ∀ y, (A ++ y :: (l.drop (i + 1)).map encTEv).length = l.length := fun y => by rw [List.length_append, List.length_cons, hBl]; omega
  obtain ⟨k1, hk1e⟩ : ∃ z, z = kk + 1 := ⟨_, rfl⟩
  have hw1 : IntKind.i64.wrap (kk + 1) = k1 := by rw [hk1e, IntKind.wrap_i64]; omega
  obtain ⟨k2, hk2e⟩ : ∃ z, z = k1 + 1 := ⟨_, rfl⟩
  have hw2 : IntKind.i64.wrap (k1 + 1) = k2 := by rw [hk2e, IntKind.wrap_i64]; omega
  obtain ⟨k3, hk3e⟩ : ∃ z, z = k2 + 1 := ⟨_, rfl⟩
  have hw3 : IntKind.i64.wrap (k2 + 1) = k3 := by rw [hk3e, IntKind.wrap_i64]; omega
  obtain ⟨k4, hk4e⟩ : ∃ z, z = k3 + 1 := ⟨_, rfl⟩
  have hw4 : IntKind.i64.wrap (k3 + 1) = k4 := by rw [hk4e, IntKind.wrap_i64]; omega
  have hrow : mrkTEv kk x = [.int .i64 (kk), .int .i64 (k1), .int .i64 (k2), .int .i64 (k3), .sl 3 (markCmds k4 x.Cmds.length), .sl 2 (markRess ((k4 + 3 * (x.Cmds.length : Int))) x.Res.length)] := by subst hk1e hk2e hk3e hk4e; rfl
  have hEE : kk + ((cntTEv x : Nat) : Int) = ((k4 + 3 * (x.Cmds.length : Int)) + 2 * (x.Res.length : Int)) := by omega
  rw [hrow, hEE] at hR2
  refine sv17 ?_
  refine scs ?_
  intro v0
  try (refine sv17 ?_)
  refine scs ?_
  refine CallK_os [1] e99 (by simp [osOk, St.obj, find]) (c99_e x.Cmds (k4) (by omega) (by omega)) rfl ?_
  refine sv17 ?_
  refine scs ?_
  intro v1
  try (refine sv17 ?_)
  refine scs ?_
  refine CallK_os [3] e106 (by simp [osOk, St.obj, find]) (c106_e x.Res ((k4 + 3 * (x.Cmds.length : Int))) (by omega) (by omega)) rfl ?_
  refine sv17 ?_
  refine scs ?_
  apply hK
  refine ⟨l.length - (i + 1), _, by omega, Ent.trans (closeMid (k := 0) (n := 1) (p := 2) (j := 4) (v := v0) (s2 := 3) (rs := markCmds (k4) x.Cmds.length) hA rfl (by decide) rfl rfl rfl (by decide)) (Ent.trans (closeMid (k := 0) (n := 3) (p := 4) (j := 5) (v := v1) (s2 := 2) (rs := markRess ((k4 + 3 * (x.Cmds.length : Int))) x.Res.length) hA rfl (by decide) rfl rfl rfl (by decide)) (?_)), i + 1, A ++ [[.int .i64 (kk), .int .i64 (k1), .int .i64 (k2), .int .i64 (k3), .sl 3 (markCmds k4 x.Cmds.length), .sl 2 (markRess ((k4 + 3 * (x.Cmds.length : Int))) x.Res.length)]], ((k4 + 3 * (x.Cmds.length : Int)) + 2 * (x.Res.length : Int)), by omega, rfl, ⟨by simp [hA], by rw [hR2, List.append_assoc]; rfl, by omega, by omega⟩, rfl⟩
  refine Ent.wk [0] (h4 := objsLe_one (Nat.zero_lt_succ _) ?_) (h5 := ?_)
  ·show AObj.vec 6 true _ = AObj.vec 6 true _
   rw [List.append_assoc]
   rfl
  ·simp [closeMd, St.setObj, envLe, find, AV.renF, AV.renF1, Leaf.renF, hw]
 ·have hge' : i = l.length := by omega
  subst hge'
  rw [List.drop_length] at hk2 hR2 ⊢
  rw [mrkTEvS, List.append_nil] at hR2
  have hkk : kk = k + (cntTEvS l : Int) := by rw [<- hk2]; simp [cntTEvS]
  have hd : decide (((l.length : Nat) : Int) < ((l.length : Nat) : Int)) = false := by simp
  rw [List.map_nil, List.append_nil]
  refine sv9 ?_
  apply hK
  refine evl ?_
  rw [hkk, hR2]
  refine Fin.nt results41 [0] ?_ ?_ ?_ <;> try trivial
  all_goals exact entd
theorem c41_f (l : List TEv) (hl : l.length <= 1048576) (hq : ∀ x ∈ l, x.sok) (k : Int) (hk0 : 0 <= k) (hk : k + (cntTEvS l : Int) <= 4611686018427387904) : Ctr prog 41 [.one (.own 0), .one (.dat (.int .i64 k))] [lent 6 (l.map encTEv)] (.one (.dat (.int .i64 (k + (cntTEvS l : Int))))) [lent 6 (mrkTEvS k l)] := by
 cases l with
 | cons x l =>
  rw [lent_ne (mrkTEvS_ne (by simp) k)]
  exact c41_e (x :: l) hl hq k hk0 hk
 | nil =>
  show Ctr prog 41 [.one (.own 0), .one (.dat (.int .i64 k))] [.frz 6 []] (.one (.dat (.int .i64 (k + (cntTEvS ([] : List TEv) : Int))))) [.frz 6 []]
  rw [show k + (cntTEvS ([] : List TEv) : Int) = k by simp [cntTEvS]]
  refine Ctr.bk mixed func41 rfl ?_
  refine evl ?_
  refine LoopK_intro (fun zn zs => zn = 0 /\ zs = mkSt [(5, .one (.dat (.int .i64 0))), (1, .one (.dat (.int .i64 k))), (0, .one (.own 0))] [.frz 6 []]) 0 _ (Ent.wk [0]) ⟨rfl, rfl⟩ ?_
  rintro zn zs ⟨rfl, rfl⟩ K hK
  have hd0 : decide ((0 : Int) < ((0 : Nat) : Int)) = false := rfl
  refine sv5 ?_
  apply hK
  refine evl ?_
  refine Fin.nt results41 [0] ?_ ?_ ?_ <;> try trivial
  all_goals exact entd
theorem c46 (l : List TEv) (hl : l.length <= 1048576) (hq : ∀ x ∈ l, x.sok) (k : Int) (hk0 : 0 <= k) (hk : k + (cntTEvS l : Int) <= 4611686018427387904) : Ctr prog 46 [.one (.dat (.sl 6 (mrkTEvS k l))), .one (.dat (.int .i64 k))] [] (.one (.dat (.int .i64 (k + (cntTEvS l : Int))))) [] := by
 obtain ⟨R, hR⟩ : ∃ R, R = mrkTEvS k l := ⟨_, rfl⟩
 have hRl : R.length = l.length := by rw [hR, mrkTEvS_len]
 rw [<- hR]
 refine Ctr.bd mixed func46 rfl ?_
 refine evl ?_
 refine LoopK_intro (fun zn zs => ∃ (i : Nat) (A : List (List D)) (kk : Int), i <= l.length /\ zn = l.length - i /\ (A.length = i /\ R = A ++ mrkTEvS kk (l.drop i) /\ 0 <= kk /\ kk + (cntTEvS (l.drop i) : Int) = k + (cntTEvS l : Int)) /\ zs = mkSt [(5, .one (.dat (.int .i64 i))), (1, .one (.dat (.int .i64 kk))), (0, .one (.dat (.sl 6 R)))] []) l.length _
  (Ent.wk []) ⟨0, [], k, by omega, by omega, ⟨rfl, hR, hk0, rfl⟩, rfl⟩ ?_
 rintro zn zs ⟨i, A, kk, hi, rfl, ⟨hA, hR2, hk1, hk2⟩, rfl⟩ K hK
 rcases Nat.lt_or_ge i l.length with hlt | hge
 ·have hd : decide ((i : Int) < ((l.length : Nat) : Int)) = true := decide_eq_true (by omega)
  have hw := wrap_succ hlt (show l.length <= maxLen by unfold maxLen; omega)
  have hqx := hq l[i] (List.getElem_mem hlt)
  rw [List.drop_eq_getElem_cons hlt] at hk2 hR2
  generalize l[i] = x at hk2 hR2 hqx
  obtain ⟨q0, q1, _⟩ := hqx
  rw [cntTEvS_cons] at hk2
  have hcx : cntTEv x = 4 + 3 * x.Cmds.length + 2 * x.Res.length := rfl
  rw [mrkTEvS] at hR2
  obtain ⟨k1, hk1e⟩ : ∃ z, z = kk + 1 := ⟨_, rfl⟩
  have hw1 : IntKind.i64.wrap (kk + 1) = k1 := by rw [hk1e, IntKind.wrap_i64]; omega
  obtain ⟨k2, hk2e⟩ : ∃ z, z = k1 + 1 := ⟨_, rfl⟩
  have hw2 : IntKind.i64.wrap (k1 + 1) = k2 := by rw [hk2e, IntKind.wrap_i64]; omega
  obtain ⟨k3, hk3e⟩ : ∃ z, z = k2 + 1 := ⟨_, rfl⟩
  have hw3 : IntKind.i64.wrap (k2 + 1) = k3 := by rw [hk3e, IntKind.wrap_i64]; omega
  obtain ⟨k4, hk4e⟩ : ∃ z, z = k3 + 1 := ⟨_, rfl⟩
  have hw4 : IntKind.i64.wrap (k3 + 1) = k4 := by rw [hk4e, IntKind.wrap_i64]; omega
  have hn1 : decide ((k4 + 3 * (x.Cmds.length : Int)) < 0) = false := decide_eq_false (by omega)
  have hn2 : decide (((k4 + 3 * (x.Cmds.length : Int)) + 2 * (x.Res.length : Int)) < 0) = false := decide_eq_false (by omega)
  have hrow : mrkTEv kk x = [.int .i64 (kk), .int .i64 (k1), .int .i64 (k2), .int .i64 (k3), .sl 3 (markCmds k4 x.Cmds.length), .sl 2 (markRess ((k4 + 3 * (x.Cmds.length : Int))) x.Res.length)] := by subst hk1e hk2e hk3e hk4e; rfl
  have hEE : kk + ((cntTEv x : Nat) : Int) = ((k4 + 3 * (x.Cmds.length : Int)) + 2 * (x.Res.length : Int)) := by omega
  rw [hrow, hEE] at hR2
  have hg : R.getD i [] = [.int .i64 (kk), .int .i64 (k1), .int .i64 (k2), .int .i64 (k3), .sl 3 (markCmds k4 x.Cmds.length), .sl 2 (markRess ((k4 + 3 * (x.Cmds.length : Int))) x.Res.length)] := by rw [hR2, getD_mid hA]
  refine sv18 ?_
  refine scs ?_
  refine ck e111 (c111 x.Cmds.length (k4) (by omega) (by omega)) rfl ?_
  refine sv18 ?_
  refine scs ?_
  refine ck e114 (c114 x.Res.length ((k4 + 3 * (x.Cmds.length : Int))) (by omega) (by omega)) rfl ?_
  refine sv18 ?_
  refine scs ?_
  apply hK
  exact ⟨l.length - (i + 1), _, by omega, Ent.wk [], i + 1, A ++ [[.int .i64 (kk), .int .i64 (k1), .int .i64 (k2), .int .i64 (k3), .sl 3 (markCmds k4 x.Cmds.length), .sl 2 (markRess ((k4 + 3 * (x.Cmds.length : Int))) x.Res.length)]], ((k4 + 3 * (x.Cmds.length : Int)) + 2 * (x.Res.length : Int)), by omega, rfl, ⟨by simp [hA], by rw [hR2, List.append_assoc]; rfl, by omega, by omega⟩, rfl⟩
 ·have hge' : i = l.length := by omega
  subst hge'
  rw [List.drop_length] at hk2
  have hkk : kk = k + (cntTEvS l : Int) := by rw [<- hk2]; simp [cntTEvS]
  have hd : decide (((l.length : Nat) : Int) < ((l.length : Nat) : Int)) = false := by simp
  refine sv10 ?_
  apply hK
  refine evl ?_
  rw [hkk]
  refine Fin.nt results46 [] ?_ ?_ ?_ <;> try trivial
theorem c101_e (x : Clock) (hx : x.sok) (k : Int) (hk0 : 0 <= k) (hk : k + (mcClock x : Int) <= 4611686018427387904) : Ctr prog 101 [.agg [.dat (.int .i64 x.Epoch), .own 0], .one (.dat (.int .i64 k))] [.vec 4 true (x.Pins.map encPin)] (.one (.dat (.int .i64 (k + (mcClock x : Int))))) [.vec 4 true (markPins k x.Pins.length)] := by
 have hmc : mcClock x = 4 * x.Pins.length := rfl
 obtain ⟨q0, _⟩ := hx
 refine Ctr.of_body mixed func101 rfl (by kernel_rfl) (Nat.le_of_ble_eq_true rfl) (by simp [AV.Clean, AV.Clean1, Leaf.Clean, D.flat]) (by simp [AObj.Sep]) (by simp) ?_ (by simp [AV.Low, AV.Low1, Leaf.Low]) ?_
 ·intro o ho
  have : o = 0 := by have : o < 1 := ho; omega
  rcases this with rfl <;> simp [Objs, Compat, markPins_length]
 show wpA _ _ _ (FinQ _ _ _ _ _) _
 refine evl ?_
 refine scs ?_
 refine CallK_os [0] e193 (by simp [osOk, St.obj, find]) (c193 x.Pins (k) (by omega) (by omega)) rfl ?_
 refine evl ?_
 rw [show (k + 4 * (x.Pins.length : Int)) = k + (mcClock x : Int) by omega]
 refine Fin.nt results101 [0] ?_ ?_ ?_ <;> try trivial
 all_goals exact entd
theorem c108 (x : Clock) (hx : x.sok) (k : Int) (hk0 : 0 <= k) (hk : k + (mcClock x : Int) <= 4611686018427387904) : Ctr prog 108 [.agg [.dat (.int .i64 x.Epoch), .dat (.sl 4 (markPins k x.Pins.length))], .one (.dat (.int .i64 k))] [] (.one (.dat (.int .i64 (k + (mcClock x : Int))))) [] := by
 have hmc : mcClock x = 4 * x.Pins.length := rfl
 obtain ⟨q0, _⟩ := hx
 refine Ctr.bd mixed func108 rfl ?_
 refine evl ?_
 refine scs ?_
 refine ck e197 (c197 x.Pins.length (k) (by omega) (by omega)) rfl ?_
 have hn0 : decide ((k + 4 * (x.Pins.length : Int)) < 0) = false := decide_eq_false (by omega)
 refine sv19 ?_
 rw [show (k + 4 * (x.Pins.length : Int)) = k + (mcClock x : Int) by omega]
 refine Fin.nt results108 [] ?_ ?_ ?_ <;> try trivial
theorem c38_e (x : Base) (hx : x.sok) (k : Int) (hk0 : 0 <= k) (hk : k + (mcBase x : Int) <= 4611686018427387904) : Ctr prog 38 [.agg [.own 0, .own 1, .own 2, .own 3, .dat (.int .i64 x.Clock.Epoch), .own 4, .own 5, .own 6], .one (.dat (.int .i64 k))] [.vec 1 true (x.Mem.Heap.Bytes.map encI), .vec 1 true (x.Mem.Heap.Class.map encI), .vec 1 true (x.Mem.Lists.Global.map encSList), .vec 1 true (x.Mem.Lists.Own.map encSList), .vec 4 true (x.Clock.Pins.map encPin), .vec 1 true (x.Limbo.map encLList), .vec 1 true (x.Haz.map encI)] (.one (.dat (.int .i64 (k + (mcBase x : Int))))) [.vec 1 true (markInts k x.Mem.Heap.Bytes.length), .vec 1 true (markInts (k + 1 * (x.Mem.Heap.Bytes.length : Int)) x.Mem.Heap.Class.length), .vec 1 true (mrkSListS (k + (mcHeap x.Mem.Heap : Int)) x.Mem.Lists.Global), .vec 1 true (mrkSListS ((k + (mcHeap x.Mem.Heap : Int)) + (cntSListS x.Mem.Lists.Global : Int)) x.Mem.Lists.Own), .vec 4 true (markPins (k + (mcMem x.Mem : Int)) x.Clock.Pins.length), .vec 1 true (mrkLListS ((k + (mcMem x.Mem : Int)) + (mcClock x.Clock : Int)) x.Limbo), .vec 1 true (markInts (((k + (mcMem x.Mem : Int)) + (mcClock x.Clock : Int)) + (cntLListS x.Limbo : Int)) x.Haz.length)] := by
 have hmc : mcBase x = mcMem x.Mem + mcClock x.Clock + cntLListS x.Limbo + 1 * x.Haz.length := rfl
 obtain ⟨q0, q1, q2, q3, q4, _⟩ := hx
 refine Ctr.of_body mixed func38 rfl (by kernel_rfl) (Nat.le_of_ble_eq_true rfl) (by simp [AV.Clean, AV.Clean1, Leaf.Clean, D.flat]) (by simp [AObj.Sep]) (by simp) ?_ (by simp [AV.Low, AV.Low1, Leaf.Low]) ?_
 ·intro o ho
  have : o = 0 \/ o = 1 \/ o = 2 \/ o = 3 \/ o = 4 \/ o = 5 \/ o = 6 := by have : o < 7 := ho; omega
  rcases this with rfl | rfl | rfl | rfl | rfl | rfl | rfl <;> simp [Objs, Compat, markInts_len, markPins_length, mrkLListS_len, mrkSListS_len]
 show wpA _ _ _ (FinQ _ _ _ _ _) _
 refine evl ?_
 refine scs ?_
 refine CallK_os [0, 1, 2, 3] e100 (by simp [osOk, St.obj, find]) (c100_e x.Mem q0 (k) (by omega) (by omega)) rfl ?_
 refine evl ?_
 refine scs ?_
 refine CallK_os [4] e101 (by simp [osOk, St.obj, find]) (c101_e x.Clock q1 ((k + (mcMem x.Mem : Int))) (by omega) (by omega)) rfl ?_
 refine evl ?_
 refine scs ?_
 refine CallK_os [5] e102 (by simp [osOk, St.obj, find]) (c102_e x.Limbo q2 q3 (((k + (mcMem x.Mem : Int)) + (mcClock x.Clock : Int))) (by omega) (by omega)) rfl ?_
 refine evl ?_
 refine scs ?_
 refine CallK_os [6] e103 (by simp [osOk, St.obj, find]) (c103 x.Haz ((((k + (mcMem x.Mem : Int)) + (mcClock x.Clock : Int)) + (cntLListS x.Limbo : Int))) (by omega) (by omega)) rfl ?_
 refine evl ?_
 rw [show ((((k + (mcMem x.Mem : Int)) + (mcClock x.Clock : Int)) + (cntLListS x.Limbo : Int)) + 1 * (x.Haz.length : Int)) = k + (mcBase x : Int) by omega]
 refine Fin.nt results38 [0, 1, 2, 3, 4, 5, 6] ?_ ?_ ?_ <;> try trivial
 all_goals exact entd
theorem c42 (x : Base) (hx : x.sok) (k : Int) (hk0 : 0 <= k) (hk : k + (mcBase x : Int) <= 4611686018427387904) : Ctr prog 42 [.agg [.dat (.sl 1 (markInts k x.Mem.Heap.Bytes.length)), .dat (.sl 1 (markInts (k + 1 * (x.Mem.Heap.Bytes.length : Int)) x.Mem.Heap.Class.length)), .dat (.sl 1 (mrkSListS (k + (mcHeap x.Mem.Heap : Int)) x.Mem.Lists.Global)), .dat (.sl 1 (mrkSListS ((k + (mcHeap x.Mem.Heap : Int)) + (cntSListS x.Mem.Lists.Global : Int)) x.Mem.Lists.Own)), .dat (.int .i64 x.Clock.Epoch), .dat (.sl 4 (markPins (k + (mcMem x.Mem : Int)) x.Clock.Pins.length)), .dat (.sl 1 (mrkLListS ((k + (mcMem x.Mem : Int)) + (mcClock x.Clock : Int)) x.Limbo)), .dat (.sl 1 (markInts (((k + (mcMem x.Mem : Int)) + (mcClock x.Clock : Int)) + (cntLListS x.Limbo : Int)) x.Haz.length))], .one (.dat (.int .i64 k))] [] (.one (.dat (.int .i64 (k + (mcBase x : Int))))) [] := by
 have hmc : mcBase x = mcMem x.Mem + mcClock x.Clock + cntLListS x.Limbo + 1 * x.Haz.length := rfl
 obtain ⟨q0, q1, q2, q3, q4, _⟩ := hx
 refine Ctr.bd mixed func42 rfl ?_
 refine evl ?_
 refine scs ?_
 refine ck e107 (c107 x.Mem q0 (k) (by omega) (by omega)) rfl ?_
 have hn0 : decide ((k + (mcMem x.Mem : Int)) < 0) = false := decide_eq_false (by omega)
 refine sv19 ?_
 refine scs ?_
 refine ck e108 (c108 x.Clock q1 ((k + (mcMem x.Mem : Int))) (by omega) (by omega)) rfl ?_
 have hn1 : decide (((k + (mcMem x.Mem : Int)) + (mcClock x.Clock : Int)) < 0) = false := decide_eq_false (by omega)
 refine sv11 ?_
 refine scs ?_
 refine ck e109 (c109 x.Limbo q2 q3 (((k + (mcMem x.Mem : Int)) + (mcClock x.Clock : Int))) (by omega) (by omega)) rfl ?_
 have hn2 : decide ((((k + (mcMem x.Mem : Int)) + (mcClock x.Clock : Int)) + (cntLListS x.Limbo : Int)) < 0) = false := decide_eq_false (by omega)
 refine sv12 ?_
 refine scs ?_
 refine ck e110 (c110 x.Haz.length ((((k + (mcMem x.Mem : Int)) + (mcClock x.Clock : Int)) + (cntLListS x.Limbo : Int))) (by omega) (by omega)) rfl ?_
 have hn3 : decide (((((k + (mcMem x.Mem : Int)) + (mcClock x.Clock : Int)) + (cntLListS x.Limbo : Int)) + 1 * (x.Haz.length : Int)) < 0) = false := decide_eq_false (by omega)
 simp (maxSteps := 2000000) only [go_sem, seval, hn3]
 rw [show ((((k + (mcMem x.Mem : Int)) + (mcClock x.Clock : Int)) + (cntLListS x.Limbo : Int)) + 1 * (x.Haz.length : Int)) = k + (mcBase x : Int) by omega]
 refine Fin.nt results42 [] ?_ ?_ ?_ <;> try trivial
theorem c13_e (x : Table) (hx : x.sok) (k : Int) (hk0 : 0 <= k) (hk : k + (mcTable x : Int) <= 4611686018427387904) : Ctr prog 13 [.agg [.own 0, .own 1, .own 2, .own 3, .dat (.int .i64 x.Base.Clock.Epoch), .own 4, .own 5, .own 6, .own 7, .own 8, .own 9, .own 10, .dat (.int .i64 x.Serial)], .one (.dat (.int .i64 k))] [.vec 1 true (x.Base.Mem.Heap.Bytes.map encI), .vec 1 true (x.Base.Mem.Heap.Class.map encI), .vec 1 true (x.Base.Mem.Lists.Global.map encSList), .vec 1 true (x.Base.Mem.Lists.Own.map encSList), .vec 4 true (x.Base.Clock.Pins.map encPin), .vec 1 true (x.Base.Limbo.map encLList), .vec 1 true (x.Base.Haz.map encI), .vec 3 true (x.Bkts.map encBkt), .vec 32 true (x.Jobs.map encTJob), .vec 1 true (x.Todo.map encTQueue), .vec 6 true (x.Log.map encTEv)] (.one (.dat (.int .i64 (k + (mcTable x : Int))))) [.vec 1 true (markInts k x.Base.Mem.Heap.Bytes.length), .vec 1 true (markInts (k + 1 * (x.Base.Mem.Heap.Bytes.length : Int)) x.Base.Mem.Heap.Class.length), .vec 1 true (mrkSListS (k + (mcHeap x.Base.Mem.Heap : Int)) x.Base.Mem.Lists.Global), .vec 1 true (mrkSListS ((k + (mcHeap x.Base.Mem.Heap : Int)) + (cntSListS x.Base.Mem.Lists.Global : Int)) x.Base.Mem.Lists.Own), .vec 4 true (markPins (k + (mcMem x.Base.Mem : Int)) x.Base.Clock.Pins.length), .vec 1 true (mrkLListS ((k + (mcMem x.Base.Mem : Int)) + (mcClock x.Base.Clock : Int)) x.Base.Limbo), .vec 1 true (markInts (((k + (mcMem x.Base.Mem : Int)) + (mcClock x.Base.Clock : Int)) + (cntLListS x.Base.Limbo : Int)) x.Base.Haz.length), .vec 3 true (markBkts (k + (mcBase x.Base : Int)) x.Bkts.length), .vec 32 true (mrkTJobS ((k + (mcBase x.Base : Int)) + 3 * (x.Bkts.length : Int)) x.Jobs), .vec 1 true (mrkTQueueS (((k + (mcBase x.Base : Int)) + 3 * (x.Bkts.length : Int)) + (cntTJobS x.Jobs : Int)) x.Todo), .vec 6 true (mrkTEvS ((((k + (mcBase x.Base : Int)) + 3 * (x.Bkts.length : Int)) + (cntTJobS x.Jobs : Int)) + (cntTQueueS x.Todo : Int)) x.Log)] := by
 have hmc : mcTable x = mcBase x.Base + 3 * x.Bkts.length + cntTJobS x.Jobs + cntTQueueS x.Todo + cntTEvS x.Log := rfl
 obtain ⟨q0, q1, q2, q3, q4, q5, q6, q7, _⟩ := hx
 refine Ctr.of_body mixed func13 rfl (by kernel_rfl) (Nat.le_of_ble_eq_true rfl) (by simp [AV.Clean, AV.Clean1, Leaf.Clean, D.flat]) (by simp [AObj.Sep]) (by simp) ?_ (by simp [AV.Low, AV.Low1, Leaf.Low]) ?_
 ·intro o ho
  have : o = 0 \/ o = 1 \/ o = 2 \/ o = 3 \/ o = 4 \/ o = 5 \/ o = 6 \/ o = 7 \/ o = 8 \/ o = 9 \/ o = 10 := by have : o < 11 := ho; omega
  rcases this with rfl | rfl | rfl | rfl | rfl | rfl | rfl | rfl | rfl | rfl | rfl <;> simp [Objs, Compat, markBkts_length, markInts_len, markPins_length, mrkLListS_len, mrkSListS_len, mrkTEvS_len, mrkTJobS_len, mrkTQueueS_len]
 show wpA _ _ _ (FinQ _ _ _ _ _) _
 refine evl ?_
 refine scs ?_
 refine CallK_os [0, 1, 2, 3, 4, 5, 6] e38 (by simp [osOk, St.obj, find]) (c38_e x.Base q0 (k) (by omega) (by omega)) rfl ?_
 refine evl ?_
 refine scs ?_
 refine CallK_os [7] e39 (by simp [osOk, St.obj, find]) (c39 x.Bkts ((k + (mcBase x.Base : Int))) (by omega) (by omega)) rfl ?_
 refine evl ?_
 refine scs ?_
 refine CallK_os [8] e40 (by simp [osOk, St.obj, find]) (c40_e x.Jobs q2 q3 (((k + (mcBase x.Base : Int)) + 3 * (x.Bkts.length : Int))) (by omega) (by omega)) rfl ?_
 refine evl ?_
 refine scs ?_
 refine CallK_os [9] e12 (by simp [osOk, St.obj, find]) (c12_e x.Todo q4 q5 ((((k + (mcBase x.Base : Int)) + 3 * (x.Bkts.length : Int)) + (cntTJobS x.Jobs : Int))) (by omega) (by omega)) rfl ?_
 refine evl ?_
 refine scs ?_
 refine CallK_os [10] e41 (by simp [osOk, St.obj, find]) (c41_e x.Log q6 q7 (((((k + (mcBase x.Base : Int)) + 3 * (x.Bkts.length : Int)) + (cntTJobS x.Jobs : Int)) + (cntTQueueS x.Todo : Int))) (by omega) (by omega)) rfl ?_
 refine evl ?_
 rw [show (((((k + (mcBase x.Base : Int)) + 3 * (x.Bkts.length : Int)) + (cntTJobS x.Jobs : Int)) + (cntTQueueS x.Todo : Int)) + (cntTEvS x.Log : Int)) = k + (mcTable x : Int) by omega]
 refine Fin.nt results13 [0, 1, 2, 3, 4, 5, 6, 7, 8, 9, 10] ?_ ?_ ?_ <;> try trivial
 all_goals exact entd
theorem c14 (x : Table) (hx : x.sok) (k : Int) (hk0 : 0 <= k) (hk : k + (mcTable x : Int) <= 4611686018427387904) : Ctr prog 14 [.agg [.dat (.sl 1 (markInts k x.Base.Mem.Heap.Bytes.length)), .dat (.sl 1 (markInts (k + 1 * (x.Base.Mem.Heap.Bytes.length : Int)) x.Base.Mem.Heap.Class.length)), .dat (.sl 1 (mrkSListS (k + (mcHeap x.Base.Mem.Heap : Int)) x.Base.Mem.Lists.Global)), .dat (.sl 1 (mrkSListS ((k + (mcHeap x.Base.Mem.Heap : Int)) + (cntSListS x.Base.Mem.Lists.Global : Int)) x.Base.Mem.Lists.Own)), .dat (.int .i64 x.Base.Clock.Epoch), .dat (.sl 4 (markPins (k + (mcMem x.Base.Mem : Int)) x.Base.Clock.Pins.length)), .dat (.sl 1 (mrkLListS ((k + (mcMem x.Base.Mem : Int)) + (mcClock x.Base.Clock : Int)) x.Base.Limbo)), .dat (.sl 1 (markInts (((k + (mcMem x.Base.Mem : Int)) + (mcClock x.Base.Clock : Int)) + (cntLListS x.Base.Limbo : Int)) x.Base.Haz.length)), .dat (.sl 3 (markBkts (k + (mcBase x.Base : Int)) x.Bkts.length)), .dat (.sl 32 (mrkTJobS ((k + (mcBase x.Base : Int)) + 3 * (x.Bkts.length : Int)) x.Jobs)), .dat (.sl 1 (mrkTQueueS (((k + (mcBase x.Base : Int)) + 3 * (x.Bkts.length : Int)) + (cntTJobS x.Jobs : Int)) x.Todo)), .dat (.sl 6 (mrkTEvS ((((k + (mcBase x.Base : Int)) + 3 * (x.Bkts.length : Int)) + (cntTJobS x.Jobs : Int)) + (cntTQueueS x.Todo : Int)) x.Log)), .dat (.int .i64 x.Serial)], .one (.dat (.int .i64 k))] [] (.one (.dat (.int .i64 (k + (mcTable x : Int))))) [] := by
 have hmc : mcTable x = mcBase x.Base + 3 * x.Bkts.length + cntTJobS x.Jobs + cntTQueueS x.Todo + cntTEvS x.Log := rfl
 obtain ⟨q0, q1, q2, q3, q4, q5, q6, q7, _⟩ := hx
 refine Ctr.bd mixed func14 rfl ?_
 refine evl ?_
 refine scs ?_
 refine ck e42 (c42 x.Base q0 (k) (by omega) (by omega)) rfl ?_
 have hn0 : decide ((k + (mcBase x.Base : Int)) < 0) = false := decide_eq_false (by omega)
 refine sv19 ?_
 refine scs ?_
 refine ck e43 (c43 x.Bkts.length ((k + (mcBase x.Base : Int))) (by omega) (by omega)) rfl ?_
 have hn1 : decide (((k + (mcBase x.Base : Int)) + 3 * (x.Bkts.length : Int)) < 0) = false := decide_eq_false (by omega)
 refine sv11 ?_
 refine scs ?_
 refine ck e44 (c44 x.Jobs q2 q3 (((k + (mcBase x.Base : Int)) + 3 * (x.Bkts.length : Int))) (by omega) (by omega)) rfl ?_
 have hn2 : decide ((((k + (mcBase x.Base : Int)) + 3 * (x.Bkts.length : Int)) + (cntTJobS x.Jobs : Int)) < 0) = false := decide_eq_false (by omega)
 refine sv12 ?_
 refine scs ?_
 refine ck e45 (c45 x.Todo q4 q5 ((((k + (mcBase x.Base : Int)) + 3 * (x.Bkts.length : Int)) + (cntTJobS x.Jobs : Int))) (by omega) (by omega)) rfl ?_
 have hn3 : decide (((((k + (mcBase x.Base : Int)) + 3 * (x.Bkts.length : Int)) + (cntTJobS x.Jobs : Int)) + (cntTQueueS x.Todo : Int)) < 0) = false := decide_eq_false (by omega)
 simp (maxSteps := 2000000) only [go_sem, seval, hn3]
 refine scs ?_
 refine ck e46 (c46 x.Log q6 q7 (((((k + (mcBase x.Base : Int)) + 3 * (x.Bkts.length : Int)) + (cntTJobS x.Jobs : Int)) + (cntTQueueS x.Todo : Int))) (by omega) (by omega)) rfl ?_
 have hn4 : decide ((((((k + (mcBase x.Base : Int)) + 3 * (x.Bkts.length : Int)) + (cntTJobS x.Jobs : Int)) + (cntTQueueS x.Todo : Int)) + (cntTEvS x.Log : Int)) < 0) = false := decide_eq_false (by omega)
 simp (maxSteps := 2000000) only [go_sem, seval, hn4]
 rw [show (((((k + (mcBase x.Base : Int)) + 3 * (x.Bkts.length : Int)) + (cntTJobS x.Jobs : Int)) + (cntTQueueS x.Todo : Int)) + (cntTEvS x.Log : Int)) = k + (mcTable x : Int) by omega]
 refine Fin.nt results14 [] ?_ ?_ ?_ <;> try trivial
end Go.Proofs.YtkmmgklnoagedaaGreat.Mod
