/- Contracts: Exact. -/
import Derived.Test.YtldpopbnlmoamaaGreatRows
import Derived.Test.YtldpopbnlmoamaaGreatTTy
import Derived.Test.YtldpopbnlmoamaaGreatAbsTac
import Derived.Test.YtldpopbnlmoamaaGreatAbsData
import Derived.Test.YtldpopbnlmoamaaGreatTMarks
import Derived.WalkKit
import Derived.ProofKit
import Derived.OpenShut
namespace Go.Proofs.YtldpopbnlmoamaaGreat.Mod
open Go.Proofs.Tryz Go.Abs Go.Proofs.YtldpopbnlmoamaaGreat.Ty Go.ChangeShapes Go.WideShapes Go.ChangeAt Go.RowKit
set_option linter.unusedSimpArgs false
set_option linter.unusedVariables false
set_option maxHeartbeats 8000000
set_option maxRecDepth 100000
def closeMd (st : St) (k n p sz : Nat) (rows : List (List D)) : St := ((st.setObj n .dead).setObj p .dead).setObj k (.vec sz true rows)
theorem closeMid {nf : Nat} {st : St} {k n p sz i : Nat} {A B : List (List D)} {r : List D} (hA : A.length = i) (e : st.obj k = .vec sz true (A ++ r :: B)) {j : Nat} (hj : j < sz) {v : Value} (hd : r.getD j default = .hdr v) {s2 : Nat} {rs : List (List D)}
  (en : st.obj n = lent s2 rs) (ep : st.obj p = .pin n v) (hkn : k ≠ n) : Ent nf st (closeMd st k n p sz (A ++ r.set j (.sl s2 rs) :: B)) := by
 have := Ent.closeL (nf := nf) e (i := i) (j := j) (by simp; omega) hj (by rw [getD_mid hA]; exact hd) en ep hkn
 rw [closeSt, getD_mid hA, set_mid hA] at this
 exact this
theorem c38_e (l : List Cmd) (k : Int) (hk0 : 0 <= k) (hk : k + 3 * l.length <= 4611686018427387904) : Ctr prog 38 [.one (.own 0), .one (.dat (.int .i64 k))] [lent 3 (l.map encCmd)] (.one (.dat (.int .i64 (k + 3 * l.length)))) [lent 3 (markCmds k l.length)] := by
 cases l with
 | cons x l =>
  rw [lent_ne (rs := markCmds k (x :: l).length) (by intro e; have := congrArg List.length e; rw [markCmds_length] at this; simp at this)]
  exact c38 (x :: l) k hk0 hk
 | nil =>
  show Ctr prog 38 [.one (.own 0), .one (.dat (.int .i64 k))] [.frz 3 []] (.one (.dat (.int .i64 (k + 3 * ((0 : Nat) : Int))))) [.frz 3 []]
  rw [show k + 3 * ((0 : Nat) : Int) = k by omega]
  refine Ctr.bk mixed func38 rfl ?_
  refine evl ?_
  refine LoopK_intro (fun zn zs => zn = 0 /\ zs = mkSt [(5, .one (.dat (.int .i64 0))), (1, .one (.dat (.int .i64 k))), (0, .one (.own 0))] [.frz 3 []]) 0 _ (Ent.wk [0]) ⟨rfl, rfl⟩ ?_
  rintro zn zs ⟨rfl, rfl⟩ K hK
  have hd0 : decide ((0 : Int) < ((0 : Nat) : Int)) = false := rfl
  refine sv5 ?_
  apply hK
  refine evl ?_
  refine Fin.nt results38 [0] ?_ ?_ ?_ <;> try trivial
  all_goals exact entd
theorem c39_e (l : List Res) (k : Int) (hk0 : 0 <= k) (hk : k + 2 * l.length <= 4611686018427387904) : Ctr prog 39 [.one (.own 0), .one (.dat (.int .i64 k))] [lent 2 (l.map encRes)] (.one (.dat (.int .i64 (k + 2 * l.length)))) [lent 2 (markRess k l.length)] := by
 cases l with
 | cons x l =>
  rw [lent_ne (rs := markRess k (x :: l).length) (by intro e; have := congrArg List.length e; rw [markRess_length] at this; simp at this)]
  exact c39 (x :: l) k hk0 hk
 | nil =>
  show Ctr prog 39 [.one (.own 0), .one (.dat (.int .i64 k))] [.frz 2 []] (.one (.dat (.int .i64 (k + 2 * ((0 : Nat) : Int))))) [.frz 2 []]
  rw [show k + 2 * ((0 : Nat) : Int) = k by omega]
  refine Ctr.bk mixed func39 rfl ?_
  refine evl ?_
  refine LoopK_intro (fun zn zs => zn = 0 /\ zs = mkSt [(5, .one (.dat (.int .i64 0))), (1, .one (.dat (.int .i64 k))), (0, .one (.own 0))] [.frz 2 []]) 0 _ (Ent.wk [0]) ⟨rfl, rfl⟩ ?_
  rintro zn zs ⟨rfl, rfl⟩ K hK
  have hd0 : decide ((0 : Int) < ((0 : Nat) : Int)) = false := rfl
  refine sv5 ?_
  apply hK
  refine evl ?_
  refine Fin.nt results39 [0] ?_ ?_ ?_ <;> try trivial
  all_goals exact entd
def mrkTEv (k : Int) (x : TEv) : List D := [.int .i64 (k), .int .i64 (k + 1), .int .i64 (k + 1 + 1), .int .i64 (k + 1 + 1 + 1), .sl 3 (markCmds (k + 1 + 1 + 1 + 1) x.Cmds.length), .sl 2 (markRess (k + 1 + 1 + 1 + 1 + 3 * (x.Cmds.length : Int)) x.Res.length)]
def mrkTEvS : Int -> List TEv -> List (List D)
 | _, [] => []
 | k, x :: l => mrkTEv k x :: mrkTEvS (k + (cntTEv x : Nat)) l
theorem mrkTEvS_len : ∀ (l : List TEv) (k : Int), (mrkTEvS k l).length = l.length
 | [], _ => rfl
 | x :: l, k => by rw [mrkTEvS, List.length_cons, List.length_cons, mrkTEvS_len l]
theorem mrkTEvS_ne {l : List TEv} (h : l ≠ []) (k : Int) : mrkTEvS k l ≠ [] := by
 cases l with
 | nil => exact absurd rfl h
 | cons x l => simp [mrkTEvS]
theorem c12_e (l : List TEv) (hl : l.length <= 1048576) (hq : ∀ x ∈ l, x.sok) (k : Int) (hk0 : 0 <= k) (hk : k + (cntTEvS l : Int) <= 4611686018427387904) : Ctr prog 12 [.one (.own 0), .one (.dat (.int .i64 k))] [.vec 6 true (l.map encTEv)] (.one (.dat (.int .i64 (k + (cntTEvS l : Int))))) [.vec 6 true (mrkTEvS k l)] := by
 refine Ctr.of_body mixed func12 rfl (by kernel_rfl) (Nat.le_of_ble_eq_true rfl) (by simp [AV.Clean, AV.Clean1, Leaf.Clean, D.flat]) (by simp [AObj.Sep]) (by simp) ?_ (by simp [AV.Low, AV.Low1, Leaf.Low]) ?_
 ·intro o ho
  have : o = 0 := by simpa using ho
  subst this
  simp [Objs, Compat, mrkTEvS_len]
 show wpA _ _ _ (FinQ _ _ _ _ _) _
 refine evl ?_
 refine LoopK_intro (fun zn zs => ∃ (i : Nat) (A : List (List D)) (kk : Int), i <= l.length /\ zn = l.length - i /\ (A.length = i /\ mrkTEvS k l = A ++ mrkTEvS kk (l.drop i) /\ 0 <= kk /\ kk + (cntTEvS (l.drop i) : Int) = k + (cntTEvS l : Int)) /\ zs = mkSt [(5, .one (.dat (.int .i64 i))), (1, .one (.dat (.int .i64 kk))), (0, .one (.own 0))] [.vec 6 true (A ++ (l.drop i).map encTEv)]) l.length _
  (Ent.wk [0]) ⟨0, [], k, by omega, by omega, ⟨rfl, rfl, hk0, rfl⟩, rfl⟩ ?_
 rintro zn zs ⟨i, A, kk, hi, rfl, ⟨hA, hR2, hk1, hk2⟩, rfl⟩ K hK
 rcases Nat.lt_or_ge i l.length with hlt | hge
 ·have hd : decide ((i : Int) < ((l.length : Nat) : Int)) = true := decide_eq_true (by omega)
  have hw := wrap_succ hlt (show l.length <= maxLen by unfold maxLen; omega)
  have hqx := hq l[i] (List.getElem_mem hlt)
  rw [List.drop_eq_getElem_cons hlt] at hk2 hR2 ⊢
  rw [List.map_cons]
  generalize l[i] = x at hk2 hR2 hqx ⊢
  obtain ⟨q0, q1, _⟩ := hqx
  rw [cntTEvS_cons] at hk2
  have hcx : cntTEv x = 4 + 3 * x.Cmds.length + 2 * x.Res.length := rfl
  rw [mrkTEvS] at hR2
  have hBl : ((l.drop (i + 1)).map encTEv).length = l.length - (i + 1) := by simp
  have hl1 : ∀ y, (A ++ y :: (l.drop (i + 1)).map encTEv).length = l.length := fun y => by rw [List.length_append, List.length_cons, hBl]; omega
  obtain ⟨k1, hk1e⟩ : ∃ z, z = kk + 1 := ⟨_, rfl⟩
  have hw1 : IntKind.i64.wrap (kk + 1) = k1 := by rw [hk1e, IntKind.wrap_i64]; omega
  obtain ⟨k2, hk2e⟩ : ∃ z, z = k1 + 1 := ⟨_, rfl⟩
  have hw2 : IntKind.i64.wrap (k1 + 1) = k2 := by rw [hk2e, IntKind.wrap_i64]; omega
  obtain ⟨k3, hk3e⟩ : ∃ z, z = k2 + 1 := ⟨_, rfl⟩
  have hw3 : IntKind.i64.wrap (k2 + 1) = k3 := by rw [hk3e, IntKind.wrap_i64]; omega
  obtain ⟨k4, hk4e⟩ : ∃ z, z = k3 + 1 := ⟨_, rfl⟩
  have hw4 : IntKind.i64.wrap (k3 + 1) = k4 := by rw [hk4e, IntKind.wrap_i64]; omega
  have hrow : mrkTEv kk x = [.int .i64 (kk), .int .i64 (k1), .int .i64 (k2), .int .i64 (k3), .sl 3 (markCmds k4 x.Cmds.length), .sl 2 (markRess ((k4 + 3 * (x.Cmds.length : Int))) x.Res.length)] := by subst hk1e hk2e hk3e hk4e; rfl
  have hEE : kk + ((cntTEv x : Nat) : Int) = ((k4 + 3 * (x.Cmds.length : Int)) + 2 * (x.Res.length : Int)) := by omega
  rw [hrow, hEE] at hR2
  refine sv12 ?_
  refine scs ?_
  intro v0
  try (refine sv12 ?_)
  refine scs ?_
  refine CallK_os [1] e38 (by simp [osOk, St.obj, find]) (c38_e x.Cmds (k4) (by omega) (by omega)) rfl ?_
  refine sv12 ?_
  refine scs ?_
  intro v1
  try (refine sv12 ?_)
  refine scs ?_
  refine CallK_os [3] e39 (by simp [osOk, St.obj, find]) (c39_e x.Res ((k4 + 3 * (x.Cmds.length : Int))) (by omega) (by omega)) rfl ?_
  refine sv12 ?_
  refine scs ?_
  apply hK
  refine ⟨l.length - (i + 1), _, by omega, Ent.trans (closeMid (k := 0) (n := 1) (p := 2) (j := 4) (v := v0) (s2 := 3) (rs := markCmds (k4) x.Cmds.length) hA rfl (by decide) rfl rfl rfl (by decide)) (Ent.trans (closeMid (k := 0) (n := 3) (p := 4) (j := 5) (v := v1) (s2 := 2) (rs := markRess ((k4 + 3 * (x.Cmds.length : Int))) x.Res.length) hA rfl (by decide) rfl rfl rfl (by decide)) (?_)), i + 1, A ++ [[.int .i64 (kk), .int .i64 (k1), .int .i64 (k2), .int .i64 (k3), .sl 3 (markCmds k4 x.Cmds.length), .sl 2 (markRess ((k4 + 3 * (x.Cmds.length : Int))) x.Res.length)]], ((k4 + 3 * (x.Cmds.length : Int)) + 2 * (x.Res.length : Int)), by omega, rfl, ⟨by simp [hA], by rw [hR2, List.append_assoc]; rfl, by omega, by omega⟩, rfl⟩
  refine Ent.wk [0] (h4 := objsLe_one (Nat.zero_lt_succ _) ?_) (h5 := ?_)
  ·show AObj.vec 6 true _ = AObj.vec 6 true _
   rw [List.append_assoc]
   rfl
  ·simp [closeMd, St.setObj, envLe, find, AV.renF, AV.renF1, Leaf.renF, hw]
 ·have hge' : i = l.length := by omega
  subst hge'
  rw [List.drop_length] at hk2 hR2 ⊢
  rw [mrkTEvS, List.append_nil] at hR2
  have hkk : kk = k + (cntTEvS l : Int) := by rw [<- hk2]; simp [cntTEvS]
  have hd : decide (((l.length : Nat) : Int) < ((l.length : Nat) : Int)) = false := by simp
  rw [List.map_nil, List.append_nil]
  simp (maxSteps := 2000000) only [go_sem, seval, hA, hd]
  apply hK
  refine evl ?_
  rw [hkk, hR2]
  refine Fin.nt results12 [0] ?_ ?_ ?_ <;> try trivial
  all_goals exact entd
theorem c12_f (l : List TEv) (hl : l.length <= 1048576) (hq : ∀ x ∈ l, x.sok) (k : Int) (hk0 : 0 <= k) (hk : k + (cntTEvS l : Int) <= 4611686018427387904) : Ctr prog 12 [.one (.own 0), .one (.dat (.int .i64 k))] [lent 6 (l.map encTEv)] (.one (.dat (.int .i64 (k + (cntTEvS l : Int))))) [lent 6 (mrkTEvS k l)] := by
 cases l with
 | cons x l =>
  rw [lent_ne (mrkTEvS_ne (by simp) k)]
  exact c12_e (x :: l) hl hq k hk0 hk
 | nil =>
  show Ctr prog 12 [.one (.own 0), .one (.dat (.int .i64 k))] [.frz 6 []] (.one (.dat (.int .i64 (k + (cntTEvS ([] : List TEv) : Int))))) [.frz 6 []]
  rw [show k + (cntTEvS ([] : List TEv) : Int) = k by simp [cntTEvS]]
  refine Ctr.bk mixed func12 rfl ?_
  refine evl ?_
  refine LoopK_intro (fun zn zs => zn = 0 /\ zs = mkSt [(5, .one (.dat (.int .i64 0))), (1, .one (.dat (.int .i64 k))), (0, .one (.own 0))] [.frz 6 []]) 0 _ (Ent.wk [0]) ⟨rfl, rfl⟩ ?_
  rintro zn zs ⟨rfl, rfl⟩ K hK
  have hd0 : decide ((0 : Int) < ((0 : Nat) : Int)) = false := rfl
  refine sv5 ?_
  apply hK
  refine evl ?_
  refine Fin.nt results12 [0] ?_ ?_ ?_ <;> try trivial
  all_goals exact entd
theorem c13 (l : List TEv) (hl : l.length <= 1048576) (hq : ∀ x ∈ l, x.sok) (k : Int) (hk0 : 0 <= k) (hk : k + (cntTEvS l : Int) <= 4611686018427387904) : Ctr prog 13 [.one (.dat (.sl 6 (mrkTEvS k l))), .one (.dat (.int .i64 k))] [] (.one (.dat (.int .i64 (k + (cntTEvS l : Int))))) [] := by
 obtain ⟨R, hR⟩ : ∃ R, R = mrkTEvS k l := ⟨_, rfl⟩
 have hRl : R.length = l.length := by rw [hR, mrkTEvS_len]
 rw [<- hR]
 refine Ctr.bd mixed func13 rfl ?_
 refine evl ?_
 refine LoopK_intro (fun zn zs => ∃ (i : Nat) (A : List (List D)) (kk : Int), i <= l.length /\ zn = l.length - i /\ (A.length = i /\ R = A ++ mrkTEvS kk (l.drop i) /\ 0 <= kk /\ kk + (cntTEvS (l.drop i) : Int) = k + (cntTEvS l : Int)) /\ zs = mkSt [(5, .one (.dat (.int .i64 i))), (1, .one (.dat (.int .i64 kk))), (0, .one (.dat (.sl 6 R)))] []) l.length _
  (Ent.wk []) ⟨0, [], k, by omega, by omega, ⟨rfl, hR, hk0, rfl⟩, rfl⟩ ?_
 rintro zn zs ⟨i, A, kk, hi, rfl, ⟨hA, hR2, hk1, hk2⟩, rfl⟩ K hK
 rcases Nat.lt_or_ge i l.length with hlt | hge
 ·have hd : decide ((i : Int) < ((l.length : Nat) : Int)) = true := decide_eq_true (by omega)
  have hw := wrap_succ hlt (show l.length <= maxLen by unfold maxLen; omega)
  have hqx := hq l[i] (List.getElem_mem hlt)
  rw [List.drop_eq_getElem_cons hlt] at hk2 hR2
  generalize l[i] = x at hk2 hR2 hqx
  obtain ⟨q0, q1, _⟩ := hqx
  rw [cntTEvS_cons] at hk2
  have hcx : cntTEv x = 4 + 3 * x.Cmds.length + 2 * x.Res.length := rfl
  rw [mrkTEvS] at hR2
  obtain ⟨k1, hk1e⟩ : ∃ z, z = kk + 1 := ⟨_, rfl⟩
  have hw1 : IntKind.i64.wrap (kk + 1) = k1 := by rw [hk1e, IntKind.wrap_i64]; omega
  obtain ⟨k2, hk2e⟩ : ∃ z, z = k1 + 1 := ⟨_, rfl⟩
  have hw2 : IntKind.i64.wrap (k1 + 1) = k2 := by rw [hk2e, IntKind.wrap_i64]; omega
  obtain ⟨k3, hk3e⟩ : ∃ z, z = k2 + 1 := ⟨_, rfl⟩
  have hw3 : IntKind.i64.wrap (k2 + 1) = k3 := by rw [hk3e, IntKind.wrap_i64]; omega
  obtain ⟨k4, hk4e⟩ : ∃ z, z = k3 + 1 := ⟨_, rfl⟩
  have hw4 : IntKind.i64.wrap (k3 + 1) = k4 := by rw [hk4e, IntKind.wrap_i64]; omega
  have hn1 : decide ((k4 + 3 * (x.Cmds.length : Int)) < 0) = false := decide_eq_false (by omega)
  have hn2 : decide (((k4 + 3 * (x.Cmds.length : Int)) + 2 * (x.Res.length : Int)) < 0) = false := decide_eq_false (by omega)
  have hrow : mrkTEv kk x = [.int .i64 (kk), .int .i64 (k1), .int .i64 (k2), .int .i64 (k3), .sl 3 (markCmds k4 x.Cmds.length), .sl 2 (markRess ((k4 + 3 * (x.Cmds.length : Int))) x.Res.length)] := by subst hk1e hk2e hk3e hk4e; rfl
  have hEE : kk + ((cntTEv x : Nat) : Int) = ((k4 + 3 * (x.Cmds.length : Int)) + 2 * (x.Res.length : Int)) := by omega
  rw [hrow, hEE] at hR2
  have hg : R.getD i [] = [.int .i64 (kk), .int .i64 (k1), .int .i64 (k2), .int .i64 (k3), .sl 3 (markCmds k4 x.Cmds.length), .sl 2 (markRess ((k4 + 3 * (x.Cmds.length : Int))) x.Res.length)] := by rw [hR2, getD_mid hA]
  refine sv13 ?_
  refine scs ?_
  refine ck e40 (c40 x.Cmds.length (k4) (by omega) (by omega)) rfl ?_
  refine sv13 ?_
  refine scs ?_
  refine ck e41 (c41 x.Res.length ((k4 + 3 * (x.Cmds.length : Int))) (by omega) (by omega)) rfl ?_
  refine sv13 ?_
  refine scs ?_
  apply hK
  exact ⟨l.length - (i + 1), _, by omega, Ent.wk [], i + 1, A ++ [[.int .i64 (kk), .int .i64 (k1), .int .i64 (k2), .int .i64 (k3), .sl 3 (markCmds k4 x.Cmds.length), .sl 2 (markRess ((k4 + 3 * (x.Cmds.length : Int))) x.Res.length)]], ((k4 + 3 * (x.Cmds.length : Int)) + 2 * (x.Res.length : Int)), by omega, rfl, ⟨by simp [hA], by rw [hR2, List.append_assoc]; rfl, by omega, by omega⟩, rfl⟩
 ·have hge' : i = l.length := by omega
  subst hge'
  rw [List.drop_length] at hk2
  have hkk : kk = k + (cntTEvS l : Int) := by rw [<- hk2]; simp [cntTEvS]
  have hd : decide (((l.length : Nat) : Int) < ((l.length : Nat) : Int)) = false := by simp
  simp (maxSteps := 2000000) only [go_sem, seval, hRl, hd]
  apply hK
  refine evl ?_
  rw [hkk]
  refine Fin.nt results13 [] ?_ ?_ ?_ <;> try trivial
end Go.Proofs.YtldpopbnlmoamaaGreat.Mod
