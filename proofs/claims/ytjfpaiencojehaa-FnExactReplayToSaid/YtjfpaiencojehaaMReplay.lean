/- Contracts: Replay. -/
import Derived.Test.YtjfpaiencojehaaRows
import Derived.Test.YtjfpaiencojehaaTy
import Derived.Test.YtjfpaiencojehaaAbsTac
import Derived.Test.YtjfpaiencojehaaAbsData
import Derived.Test.YtjfpaiencojehaaMHist
import Derived.Test.YtjfpaiencojehaaMSl3
import Derived.Test.YtjfpaiencojehaaMFam3
import Derived.WalkKit
import Derived.ProofKit
import Derived.OpenShut
namespace Go.Proofs.Ytjfpaiencojehaa.Mod
open Go.Abs Go.Proofs.Ytjfpaiencojehaa.Ty Go.ChangeShapes Go.WideShapes Go.ChangeAt Go.RowKit
set_option linter.unusedSimpArgs false
set_option linter.unusedVariables false
set_option maxHeartbeats 8000000
set_option maxRecDepth 100000
theorem mapOk_len {l : List KV} (h : mapOk l = true) : l.length ≤ 100 := by
  have hg : ∀ j, j < l.length → mapGood l j = true := by simpa [mapOk] using h
  have key : ∀ i, i < l.length → (i : Int) ≤ (l.getD i ⟨0, 0⟩).Key := by
    intro i
    induction i with
    | zero =>
      intro hi
      have := hg 0 hi
      simp only [mapGood, within, Bool.and_eq_true, decide_eq_true_eq] at this
      omega
    | succ i ih =>
      intro hi
      have h1 := ih (by omega)
      have := hg (i + 1) hi
      simp only [mapGood, within, Bool.and_eq_true, decide_eq_true_eq, Bool.or_eq_true, beq_iff_eq, Nat.add_sub_cancel] at this
      omega
  refine Classical.byContradiction fun hn => ?_
  have h1 := key 100 (by omega)
  have := hg 100 (by omega)
  simp only [mapGood, within, Bool.and_eq_true, decide_eq_true_eq] at this
  omega
theorem cmdDo_len2 (l : List KV) (c : Cmd) : (cmdDo l c).1.length ≤ max l.length 101 := by
  by_cases h : mapOk l = true
  · have := mapOk_len h
    have := cmdDo_len l c
    omega
  · have : (cmdDo l c).1 = l := by
      unfold cmdDo
      simp [h]
    rw [this]; omega
theorem cmdsGo_len2 : ∀ (r : List Cmd) (l : List KV) (o : List Res), (cmdsGo l o r).1.length ≤ max l.length 101
  | [], l, o => by simp [cmdsGo]; omega
  | c :: r, l, o => by
    rw [cmdsGo]
    refine Nat.le_trans (cmdsGo_len2 r _ _) ?_
    have := cmdDo_len2 l c
    omega
theorem cmdsDo_len2 (l : List KV) (cs : List Cmd) : (cmdsDo l cs).1.length ≤ max l.length 101 := cmdsGo_len2 cs l []
def repStep (l : List TEv) (m : List KV) (s : Int) : List KV × Bool := match l.find? (evIs 1 s), l.find? (evIs 3 s) with
  | some c, some t => ((cmdsDo m c.Cmds).1, decide ((cmdsDo m c.Cmds).2 = t.Res))
  | _, _ => (m, false)
def repGo (l : List TEv) : List KV → Bool → List Int → List KV × Bool
  | m, a, [] => (m, a)
  | m, a, s :: r => repGo l (repStep l m s).1 (a && (repStep l m s).2) r
def replayM (l : List TEv) (n : Int) : List KV × Bool := repGo l [] true ((order l).take n.toNat)
theorem repStep_len (l : List TEv) (m : List KV) (s : Int) : (repStep l m s).1.length ≤ max m.length 101 := by
  unfold repStep
  split
  · exact cmdsDo_len2 _ _
  · exact Nat.le_max_left _ _
theorem repGo_len (l : List TEv) : ∀ (r : List Int) (m : List KV) (a : Bool), (repGo l m a r).1.length ≤ max m.length 101
  | [], m, a => by rw [repGo]; exact Nat.le_max_left _ _
  | s :: r, m, a => by
    rw [repGo]
    refine Nat.le_trans (repGo_len l r _ _) ?_
    have := repStep_len l m s
    omega
theorem replay_len (l : List TEv) (n : Int) : (replayM l n).1.length ≤ 101 := by
  have := repGo_len l ((order l).take n.toNat) [] true
  simpa [replayM] using this
theorem find_ix {k s : Int} {l : List TEv} {i : Nat} (hi : i < l.length) (hp : evIs k s l[i] = true) (h : ∀ j (hj : j < l.length), j < i → evIs k s l[j] = false) : l.find? (evIs k s) = some l[i] := by
  rw [List.find?_eq_some_iff_getElem]
  refine ⟨hp, i, hi, rfl, fun j hj => ?_⟩
  simp [h j (by omega) hj]
theorem find_no {k s : Int} {l : List TEv} (h : ∀ j (hj : j < l.length), evIs k s l[j] = false) : l.find? (evIs k s) = none := by
  rw [List.find?_eq_none]
  intro x hx
  obtain ⟨j, hj, rfl⟩ := List.getElem_of_mem hx
  simp [h j hj]
theorem orderGo_told (L : List TEv) : ∀ (r : List TEv) (o : List Int), (∀ x ∈ o, told L x = true) → ∀ x ∈ orderGo L o r, told L x = true
  | [], o, h => by simpa [orderGo] using h
  | e :: r, o, h => by
    unfold orderGo
    refine orderGo_told L r _ ?_
    cases (bif e.Kind != 2 then true else o.any fun x => x == e.Serial) with
    | true => exact h
    | false =>
      cases ht : told L e.Serial with
      | false => exact h
      | true =>
        intro x hx
        rcases List.mem_append.1 hx with hx | hx
        · exact h x hx
        · rw [List.mem_singleton.1 hx]; exact ht
theorem order_told {L : List TEv} {s : Int} (h : s ∈ order L) : ∃ i, ∃ hi : i < L.length, ixF (evIs 3 s) L = i ∧ L.find? (evIs 3 s) = some L[i] := by
  have ht := orderGo_told L L [] (by simp) s h
  rcases ixF_cases (evIs 3 s) L with ⟨e, hno⟩ | ⟨i, hi, e, hp, hno⟩
  · rw [told_none hno] at ht; cases ht
  · exact ⟨i, hi, e, find_ix hi hp hno⟩
theorem mem_lok {l : List TEv} (hz : sizTEvS l ≤ 1048576) {i : Nat} (hi : i < l.length) : l[i].Cmds.length ≤ 1048576 ∧ l[i].Res.length ≤ 1048576 := by
  have := sum_mem sizTEv (List.getElem_mem hi)
  unfold sizTEvS at hz
  have hx : sizTEv l[i] = l[i].Cmds.length + l[i].Res.length := rfl
  omega
theorem c30 (l : List TEv) (hz : sizTEvS l ≤ 1048576) (n : Int) : Ctr Try.prog 30 [.one (.dat (.sl 6 (l.map encTEv))), .one (.dat (.int .i64 n))] [] (.tup [.one (.own 0), .one (.dat (.bool (replayM l n).2))]) [.vec 2 true ((replayM l n).1.map encKV)] := by
  have hmx : maxLen = 9223372036854775807 := rfl
  have hll : l.length ≤ 1048576 := by unfold sizTEvS at hz; omega
  have hol := order_len l
  have hod := fun s hs => order_told (L := l) (s := s) hs
  have hco := c62 l (by omega)
  have hM : (if 0 > (if ((order l).length : Int) < n then ((order l).length : Int) else n) then 0 else if ((order l).length : Int) < n then ((order l).length : Int) else n) = ((min (order l).length n.toNat : Nat) : Int) := by
    split <;> split <;> omega
  refine Ctr.bd mixed Try.func30 rfl ?_
  refine evl ?_
  repeat ((with_reducible show _ ∧ _); refine scA ?_)
  first | refine CallK_pure e62 (hco) rfl ?_ | refine EffK_pw e62 (hco) rfl ?_ | refine EffK_pu e62 (hco) rfl ?_ | refine CCallK_pl e62 (hco) rfl rfl ?_ | refine CCallK_pm e62 (hco) rfl rfl ?_
  simp (maxSteps := 2000000) only [go_sem, ↓reduceIte, reduceCtorEq, Nat.reduceAdd, Nat.reduceMul, Nat.reduceSub, Nat.reduceLT, Nat.reduceLeDiff, Nat.reduceEqDiff, Int.reduceToNat, Int.reduceLT, Int.reduceLE, Int.reduceNeg, hM, List.length_map, Int.toNat_natCast]
  repeat ((with_reducible show _ ∧ _); refine scA ?_)
  obtain ⟨cN, hKe⟩ : ∃ cN, cN = min (order l).length n.toNat := ⟨_, rfl⟩
  have hKl : cN ≤ (order l).length := by omega
  have hTK : (order l).take n.toNat = (order l).take cN := by
    rw [hKe, Nat.min_comm, List.take_eq_take_min]
  rw [← hKe]
  unfold replayM
  rw [hTK]
  clear hM hTK hKe
  refine LoopK_intro (fun zn zs => ∃ (i : Nat) (m : List KV) (a : Bool), i ≤ cN ∧ zn = cN - i ∧ (repGo l [] true ((order l).take cN) = repGo l m a (((order l).take cN).drop i) ∧ m.length ≤ 101) ∧ zs = mkSt [(25, .one (.dat (.int .i64 i))), (24, .one (.dat (.int .i64 (cN)))), (23, .one (.part 1 0 cN)), (6, .one (.own 0)), (7, .one (.dat (.bool a))), (0, .one (.dat (.sl 6 (l.map encTEv)))), (1, .one (.dat (.int .i64 n)))] [.vec 2 true (m.map encKV), .vec 1 true ((order l).map encI)]) (cN) _
    (Ent.wk [0, 1]) ⟨0, [], true, by omega, by omega, ⟨rfl, by decide⟩, rfl⟩ ?_
  rintro zn zs ⟨i, m, a, hi, rfl, hinv, rfl⟩ K hK
  rcases Nat.lt_or_ge i (cN) with hlt | hge
  · have hdi : decide ((i : Int) < ((cN : Nat) : Int)) = true := decide_eq_true (by omega)
    have hw := wrap_succ hlt (show cN ≤ maxLen by omega)
    have hio : i < (order l).length := by omega
    have hdr : ((order l).take cN).drop i = (order l)[i] :: ((order l).take cN).drop (i + 1) := by
      rw [List.drop_eq_getElem_cons (by rw [List.length_take]; omega), List.getElem_take]
    obtain ⟨hin, hml⟩ := hinv
    obtain ⟨t, htl, hte, htf⟩ := hod (order l)[i] (List.getElem_mem hio)
    rw [hdr, repGo] at hin
    obtain ⟨s, hse⟩ : ∃ s, s = (order l)[i] := ⟨_, rfl⟩
    rw [← hse] at hin hte htf
    have hg0 : ((order l).map encI).getD i [] = [.int .i64 s] := by rw [getD_map hio, encI, hse]
    rcases ixF_cases (evIs 1 s) l with ⟨e1, hno⟩ | ⟨j, hjl, e1, hp, hno⟩
    · have hst : repStep l m s = (m, false) := by simp [repStep, find_no hno]
      rw [hst] at hin
      have hng : decide ((-1 : Int) < 0) = true := rfl
      simp (maxSteps := 2000000) only [go_sem, ↓reduceIte, reduceCtorEq, Nat.reduceAdd, Nat.reduceMul, Nat.reduceSub, Nat.reduceLT, Nat.reduceLeDiff, Nat.reduceEqDiff, Int.reduceToNat, Int.reduceLT, Int.reduceLE, Int.reduceNeg, hdi, hw, hg0, List.length_map]
      repeat ((with_reducible show _ ∧ _); refine scA ?_)
      first | refine CallK_pure e63 (c63 l (by omega) 1 s) rfl ?_ | refine EffK_pw e63 (c63 l (by omega) 1 s) rfl ?_ | refine EffK_pu e63 (c63 l (by omega) 1 s) rfl ?_ | refine CCallK_pl e63 (c63 l (by omega) 1 s) rfl rfl ?_ | refine CCallK_pm e63 (c63 l (by omega) 1 s) rfl rfl ?_
      rw [placeOf, e1]
      simp (maxSteps := 2000000) only [go_sem, ↓reduceIte, reduceCtorEq, Nat.reduceAdd, Nat.reduceMul, Nat.reduceSub, Nat.reduceLT, Nat.reduceLeDiff, Nat.reduceEqDiff, Int.reduceToNat, Int.reduceLT, Int.reduceLE, Int.reduceNeg, hdi, hw, hg0, List.length_map, hng]
      repeat ((with_reducible show _ ∧ _); refine scA ?_)
      (apply hK
       exact ⟨cN - (i + 1), _, by omega, Ent.wk [0, 1], i + 1, m, (a && false), by omega, rfl, ⟨hin, hml⟩, rfl⟩)
    · have hfj := find_ix hjl hp hno
      have hst : repStep l m s = ((cmdsDo m l[j].Cmds).1, decide ((cmdsDo m l[j].Cmds).2 = l[t].Res)) := by simp only [repStep, hfj, htf]
      rw [hst] at hin
      have hng : decide ((j : Int) < 0) = false := by simp
      obtain ⟨hlj, _⟩ := mem_lok hz hjl
      obtain ⟨_, hlt3⟩ := mem_lok hz htl
      have hln := cmdsDo_len m l[j].Cmds
      have hln2 := cmdsDo_len2 m l[j].Cmds
      have hcd := c64 m (by omega) l[j].Cmds (by omega)
      have hcq := c65 (cmdsDo m l[j].Cmds).2 l[t].Res (by omega) (by omega)
      have hcp := c63 l (by omega) 3 s
      rw [placeOf, hte] at hcp
      simp (maxSteps := 2000000) only [go_sem, ↓reduceIte, reduceCtorEq, Nat.reduceAdd, Nat.reduceMul, Nat.reduceSub, Nat.reduceLT, Nat.reduceLeDiff, Nat.reduceEqDiff, Int.reduceToNat, Int.reduceLT, Int.reduceLE, Int.reduceNeg, hdi, hw, hg0, List.length_map]
      repeat ((with_reducible show _ ∧ _); refine scA ?_)
      first | refine CallK_pure e63 (c63 l (by omega) 1 s) rfl ?_ | refine EffK_pw e63 (c63 l (by omega) 1 s) rfl ?_ | refine EffK_pu e63 (c63 l (by omega) 1 s) rfl ?_ | refine CCallK_pl e63 (c63 l (by omega) 1 s) rfl rfl ?_ | refine CCallK_pm e63 (c63 l (by omega) 1 s) rfl rfl ?_
      rw [placeOf, e1]
      simp (maxSteps := 2000000) only [go_sem, ↓reduceIte, reduceCtorEq, Nat.reduceAdd, Nat.reduceMul, Nat.reduceSub, Nat.reduceLT, Nat.reduceLeDiff, Nat.reduceEqDiff, Int.reduceToNat, Int.reduceLT, Int.reduceLE, Int.reduceNeg, hdi, hw, hg0, List.length_map, hng, getD_map hjl, encTEv, Int.toNat_natCast]
      repeat ((with_reducible show _ ∧ _); refine scA ?_)
      first | refine CallK_pure e64 (hcd) rfl ?_ | refine EffK_pw e64 (hcd) rfl ?_ | refine EffK_pu e64 (hcd) rfl ?_ | refine CCallK_pl e64 (hcd) rfl rfl ?_ | refine CCallK_pm e64 (hcd) rfl rfl ?_
      simp (maxSteps := 2000000) only [go_sem, ↓reduceIte, reduceCtorEq, Nat.reduceAdd, Nat.reduceMul, Nat.reduceSub, Nat.reduceLT, Nat.reduceLeDiff, Nat.reduceEqDiff, Int.reduceToNat, Int.reduceLT, Int.reduceLE, Int.reduceNeg, hdi, hw, hg0, List.length_map]
      repeat ((with_reducible show _ ∧ _); refine scA ?_)
      first | refine CallK_pure e63 (hcp) rfl ?_ | refine EffK_pw e63 (hcp) rfl ?_ | refine EffK_pu e63 (hcp) rfl ?_ | refine CCallK_pl e63 (hcp) rfl rfl ?_ | refine CCallK_pm e63 (hcp) rfl rfl ?_
      simp (maxSteps := 2000000) only [go_sem, ↓reduceIte, reduceCtorEq, Nat.reduceAdd, Nat.reduceMul, Nat.reduceSub, Nat.reduceLT, Nat.reduceLeDiff, Nat.reduceEqDiff, Int.reduceToNat, Int.reduceLT, Int.reduceLE, Int.reduceNeg, hdi, hw, hg0, List.length_map, getD_map htl, encTEv, Int.toNat_natCast]
      repeat ((with_reducible show _ ∧ _); refine scA ?_)
      first | refine CallK_pure e65 (hcq) rfl ?_ | refine EffK_pw e65 (hcq) rfl ?_ | refine EffK_pu e65 (hcq) rfl ?_ | refine CCallK_pl e65 (hcq) rfl rfl ?_ | refine CCallK_pm e65 (hcq) rfl rfl ?_
      simp (maxSteps := 2000000) only [go_sem, ↓reduceIte, reduceCtorEq, Nat.reduceAdd, Nat.reduceMul, Nat.reduceSub, Nat.reduceLT, Nat.reduceLeDiff, Nat.reduceEqDiff, Int.reduceToNat, Int.reduceLT, Int.reduceLE, Int.reduceNeg, hdi, hw, hg0, List.length_map]
      repeat ((with_reducible show _ ∧ _); refine scA ?_)
      (apply hK
       exact ⟨cN - (i + 1), _, by omega, Ent.wk [2, 1], i + 1, (cmdsDo m l[j].Cmds).1, (a && decide ((cmdsDo m l[j].Cmds).2 = l[t].Res)), by omega, rfl, ⟨hin, by omega⟩, rfl⟩)
  · have hge' : cN = i := by omega
    subst hge'
    have hdi : decide (((cN : Nat) : Int) < ((cN : Nat) : Int)) = false := by simp
    obtain ⟨hin, _⟩ := hinv
    rw [List.drop_eq_nil_of_le (by rw [List.length_take]; omega), repGo] at hin
    simp (maxSteps := 2000000) only [go_sem, ↓reduceIte, reduceCtorEq, Nat.reduceAdd, Nat.reduceMul, Nat.reduceSub, Nat.reduceLT, Nat.reduceLeDiff, Nat.reduceEqDiff, Int.reduceToNat, Int.reduceLT, Int.reduceLE, Int.reduceNeg, hdi, List.length_map]
    apply hK
    refine evl ?_
    rw [hin]
    refine Fin.nt Try.results30 [0] ?_ ?_ ?_ <;> try trivial
    all_goals simp [objsLe, envLe, find, St.obj, AObj.renF, AV.renF, AV.renF1, Leaf.renF, LowAll, AV.Low, AV.Low1, Leaf.Low, AObj.Low, Ptr.renF, Ptr.Low]
theorem c9 (l : List TEv) (hz : sizTEvS l ≤ 1048576) : Ctr Try.prog 9 [.one (.dat (.sl 6 (l.map encTEv)))] [] (.tup [.one (.own 0), .one (.dat (.bool (replayM l (l.length : Int)).2))]) [.vec 2 true ((replayM l (l.length : Int)).1.map encKV)] := by
  refine Ctr.bd mixed Try.func9 rfl ?_
  simp (maxSteps := 2000000) only [go_sem, ↓reduceIte, reduceCtorEq, Nat.reduceAdd, Nat.reduceMul, Nat.reduceSub, Nat.reduceLT, Nat.reduceLeDiff, Nat.reduceEqDiff, Int.reduceToNat, Int.reduceLT, Int.reduceLE, Int.reduceNeg, List.length_map]
  repeat ((with_reducible show _ ∧ _); refine scA ?_)
  first | refine CallK_pure e30 (c30 l hz (l.length : Int)) rfl ?_ | refine EffK_pw e30 (c30 l hz (l.length : Int)) rfl ?_ | refine EffK_pu e30 (c30 l hz (l.length : Int)) rfl ?_ | refine CCallK_pl e30 (c30 l hz (l.length : Int)) rfl rfl ?_ | refine CCallK_pm e30 (c30 l hz (l.length : Int)) rfl rfl ?_
  refine evl ?_
  repeat ((with_reducible show _ ∧ _); refine scA ?_)
  refine Fin.nt Try.results9 [0] ?_ ?_ ?_ <;> try trivial
  all_goals simp [objsLe, envLe, find, St.obj, AObj.renF, AV.renF, AV.renF1, Leaf.renF, LowAll, AV.Low, AV.Low1, Leaf.Low, AObj.Low, Ptr.renF, Ptr.Low]
theorem c16 (l : List TEv) (hz : sizTEvS l ≤ 1048576) (n : Int) : Ctr Try.prog 16 [.one (.dat (.sl 6 (l.map encTEv))), .one (.dat (.int .i64 n))] [] (.one (.own 0)) [.vec 2 true ((replayM l n).1.map encKV)] := by
  refine Ctr.bd mixed Try.func16 rfl ?_
  simp (maxSteps := 2000000) only [go_sem, ↓reduceIte, reduceCtorEq, Nat.reduceAdd, Nat.reduceMul, Nat.reduceSub, Nat.reduceLT, Nat.reduceLeDiff, Nat.reduceEqDiff, Int.reduceToNat, Int.reduceLT, Int.reduceLE, Int.reduceNeg, List.length_map]
  repeat ((with_reducible show _ ∧ _); refine scA ?_)
  first | refine CallK_pure e30 (c30 l hz n) rfl ?_ | refine EffK_pw e30 (c30 l hz n) rfl ?_ | refine EffK_pu e30 (c30 l hz n) rfl ?_ | refine CCallK_pl e30 (c30 l hz n) rfl rfl ?_ | refine CCallK_pm e30 (c30 l hz n) rfl rfl ?_
  refine evl ?_
  repeat ((with_reducible show _ ∧ _); refine scA ?_)
  refine Fin.nt Try.results16 [0] ?_ ?_ ?_ <;> try trivial
  all_goals simp [objsLe, envLe, find, St.obj, AObj.renF, AV.renF, AV.renF1, Leaf.renF, LowAll, AV.Low, AV.Low1, Leaf.Low, AObj.Low, Ptr.renF, Ptr.Low]
theorem c28_a (l : List TEv) (hz : sizTEvS l ≤ 1048576) (m : List KV) (s : Int) (hno : ∀ j (hj : j < l.length), evIs 1 s l[j] = false) : Ctr Try.prog 28 [.one (.own 0), .one (.dat (.sl 6 (l.map encTEv))), .one (.dat (.int .i64 s))] [.vec 2 true (m.map encKV)] (.tup [.one (.own 0), .one (.dat (.bool false))]) [.vec 2 true (m.map encKV)] := by
  have hmx : maxLen = 9223372036854775807 := rfl
  have hll : l.length ≤ 1048576 := by unfold sizTEvS at hz; omega
  have e1 : placeOf l 1 s = -1 := ixF_none hno
  have hng : decide ((-1 : Int) < 0) = true := rfl
  refine Ctr.bk mixed Try.func28 rfl ?_
  refine evl ?_
  repeat ((with_reducible show _ ∧ _); refine scA ?_)
  first | refine CallK_pure e57 (c57 l (by omega) 1 s) rfl ?_ | refine EffK_pw e57 (c57 l (by omega) 1 s) rfl ?_ | refine EffK_pu e57 (c57 l (by omega) 1 s) rfl ?_ | refine CCallK_pl e57 (c57 l (by omega) 1 s) rfl rfl ?_ | refine CCallK_pm e57 (c57 l (by omega) 1 s) rfl rfl ?_
  rw [e1]
  refine evl ?_
  repeat ((with_reducible show _ ∧ _); refine scA ?_)
  first | refine CallK_pure e57 (c57 l (by omega) 3 s) rfl ?_ | refine EffK_pw e57 (c57 l (by omega) 3 s) rfl ?_ | refine EffK_pu e57 (c57 l (by omega) 3 s) rfl ?_ | refine CCallK_pl e57 (c57 l (by omega) 3 s) rfl rfl ?_ | refine CCallK_pm e57 (c57 l (by omega) 3 s) rfl rfl ?_
  simp (maxSteps := 2000000) only [go_sem, ↓reduceIte, reduceCtorEq, Nat.reduceAdd, Nat.reduceMul, Nat.reduceSub, Nat.reduceLT, Nat.reduceLeDiff, Nat.reduceEqDiff, Int.reduceToNat, Int.reduceLT, Int.reduceLE, Int.reduceNeg, hng]
  repeat ((with_reducible show _ ∧ _); refine scA ?_)
  refine Fin.nt Try.results28 [0] ?_ ?_ ?_ <;> try trivial
  all_goals simp [objsLe, envLe, find, St.obj, AObj.renF, AV.renF, AV.renF1, Leaf.renF, LowAll, AV.Low, AV.Low1, Leaf.Low, AObj.Low, Ptr.renF, Ptr.Low]
theorem c28_b (l : List TEv) (hz : sizTEvS l ≤ 1048576) (m : List KV) (hm : m.length ≤ 101) (s : Int) {j t : Nat} (hj : j < l.length) (ht : t < l.length) (e1 : ixF (evIs 1 s) l = j) (e3 : ixF (evIs 3 s) l = t) : Ctr Try.prog 28 [.one (.own 0), .one (.dat (.sl 6 (l.map encTEv))), .one (.dat (.int .i64 s))] [.vec 2 true (m.map encKV)] (.tup [.one (.own 1), .one (.dat (.bool (decide ((cmdsDo m l[j].Cmds).2 = l[t].Res))))]) [.vec 2 true (m.map encKV), .vec 2 true ((cmdsDo m l[j].Cmds).1.map encKV)] := by
  have hmx : maxLen = 9223372036854775807 := rfl
  have hll : l.length ≤ 1048576 := by unfold sizTEvS at hz; omega
  obtain ⟨hlj, _⟩ := mem_lok hz hj
  obtain ⟨_, hlt3⟩ := mem_lok hz ht
  have hln := cmdsDo_len m l[j].Cmds
  have hcd := c58 m (by omega) l[j].Cmds (by omega)
  have hcq := c59 (cmdsDo m l[j].Cmds).2 l[t].Res (by omega) (by omega)
  have e1' : placeOf l 1 s = j := e1
  have e3' : placeOf l 3 s = t := e3
  have hng1 : decide ((j : Int) < 0) = false := by simp
  have hng3 : decide ((t : Int) < 0) = false := by simp
  refine Ctr.bk mixed Try.func28 rfl ?_
  refine evl ?_
  repeat ((with_reducible show _ ∧ _); refine scA ?_)
  first | refine CallK_pure e57 (c57 l (by omega) 1 s) rfl ?_ | refine EffK_pw e57 (c57 l (by omega) 1 s) rfl ?_ | refine EffK_pu e57 (c57 l (by omega) 1 s) rfl ?_ | refine CCallK_pl e57 (c57 l (by omega) 1 s) rfl rfl ?_ | refine CCallK_pm e57 (c57 l (by omega) 1 s) rfl rfl ?_
  rw [e1']
  refine evl ?_
  repeat ((with_reducible show _ ∧ _); refine scA ?_)
  first | refine CallK_pure e57 (c57 l (by omega) 3 s) rfl ?_ | refine EffK_pw e57 (c57 l (by omega) 3 s) rfl ?_ | refine EffK_pu e57 (c57 l (by omega) 3 s) rfl ?_ | refine CCallK_pl e57 (c57 l (by omega) 3 s) rfl rfl ?_ | refine CCallK_pm e57 (c57 l (by omega) 3 s) rfl rfl ?_
  rw [e3']
  simp (maxSteps := 2000000) only [go_sem, ↓reduceIte, reduceCtorEq, Nat.reduceAdd, Nat.reduceMul, Nat.reduceSub, Nat.reduceLT, Nat.reduceLeDiff, Nat.reduceEqDiff, Int.reduceToNat, Int.reduceLT, Int.reduceLE, Int.reduceNeg, hng1, hng3, getD_map hj, encTEv, Int.toNat_natCast, List.length_map]
  repeat ((with_reducible show _ ∧ _); refine scA ?_)
  first | refine CallK_pure e58 (hcd) rfl ?_ | refine EffK_pw e58 (hcd) rfl ?_ | refine EffK_pu e58 (hcd) rfl ?_ | refine CCallK_pl e58 (hcd) rfl rfl ?_ | refine CCallK_pm e58 (hcd) rfl rfl ?_
  simp (maxSteps := 2000000) only [go_sem, ↓reduceIte, reduceCtorEq, Nat.reduceAdd, Nat.reduceMul, Nat.reduceSub, Nat.reduceLT, Nat.reduceLeDiff, Nat.reduceEqDiff, Int.reduceToNat, Int.reduceLT, Int.reduceLE, Int.reduceNeg, getD_map ht, encTEv, Int.toNat_natCast, List.length_map]
  repeat ((with_reducible show _ ∧ _); refine scA ?_)
  first | refine CallK_pure e59 (hcq) rfl ?_ | refine EffK_pw e59 (hcq) rfl ?_ | refine EffK_pu e59 (hcq) rfl ?_ | refine CCallK_pl e59 (hcq) rfl rfl ?_ | refine CCallK_pm e59 (hcq) rfl rfl ?_
  refine evl ?_
  repeat ((with_reducible show _ ∧ _); refine scA ?_)
  refine Fin.nt Try.results28 [0, 1] ?_ ?_ ?_ <;> try trivial
  all_goals simp [objsLe, envLe, find, St.obj, AObj.renF, AV.renF, AV.renF1, Leaf.renF, LowAll, AV.Low, AV.Low1, Leaf.Low, AObj.Low, Ptr.renF, Ptr.Low]
theorem c7 (l : List TEv) (hz : sizTEvS l ≤ 1048576) : Ctr Try.prog 7 [.one (.dat (.sl 6 (l.map encTEv)))] [] (.tup [.one (.own 0), .one (.dat (.bool (replayM l (l.length : Int)).2))]) [.vec 2 true ((replayM l (l.length : Int)).1.map encKV)] := by
  have hmx : maxLen = 9223372036854775807 := rfl
  have hll : l.length ≤ 1048576 := by unfold sizTEvS at hz; omega
  have hol := order_len l
  have hod := fun s hs => order_told (L := l) (s := s) hs
  have hco := c27 l (by omega)
  obtain ⟨cN, hKe⟩ : ∃ cN, cN = min (order l).length (l.length : Int).toNat := ⟨_, rfl⟩
  have hKl : cN ≤ (order l).length := by omega
  have hTK : (order l).take (l.length : Int).toNat = (order l).take cN := by
    rw [hKe, Nat.min_comm, List.take_eq_take_min]
  unfold replayM
  rw [hTK]
  refine Ctr.bd mixed Try.func7 rfl ?_
  refine evl ?_
  repeat ((with_reducible show _ ∧ _); refine scA ?_)
  first | refine CallK_pure e27 (hco) rfl ?_ | refine EffK_pw e27 (hco) rfl ?_ | refine EffK_pu e27 (hco) rfl ?_ | refine CCallK_pl e27 (hco) rfl rfl ?_ | refine CCallK_pm e27 (hco) rfl rfl ?_
  refine evl ?_
  repeat ((with_reducible show _ ∧ _); refine scA ?_)
  refine LoopK_intro (fun zn zs => ∃ (i : Nat) (m : List KV) (a : Bool), i ≤ cN ∧ zn = cN - i ∧ (repGo l [] true ((order l).take cN) = repGo l m a (((order l).take cN).drop i) ∧ m.length ≤ 101) ∧ zs = mkSt [(7, .one (.dat (.int .i64 i))), (4, .one (.own 0)), (6, .one (.own 1)), (5, .one (.dat (.bool a))), (0, .one (.dat (.sl 6 (l.map encTEv))))] [.vec 2 true (m.map encKV), .vec 1 true ((order l).map encI)]) (cN) _
    (Ent.wk [0, 1]) ⟨0, [], true, by omega, by omega, ⟨rfl, by decide⟩, rfl⟩ ?_
  rintro zn zs ⟨i, m, a, hi, rfl, hinv, rfl⟩ K hK
  rcases Nat.lt_or_ge i (cN) with hlt | hge
  · have hdi : decide ((i : Int) < ((cN : Nat) : Int)) = true := decide_eq_true (by omega)
    have hw := wrap_succ hlt (show cN ≤ maxLen by omega)
    have hio : i < (order l).length := by omega
    have hdr : ((order l).take cN).drop i = (order l)[i] :: ((order l).take cN).drop (i + 1) := by
      rw [List.drop_eq_getElem_cons (by rw [List.length_take]; omega), List.getElem_take]
    obtain ⟨hin, hml⟩ := hinv
    obtain ⟨t, htl, hte, htf⟩ := hod (order l)[i] (List.getElem_mem hio)
    rw [hdr, repGo] at hin
    obtain ⟨s, hse⟩ : ∃ s, s = (order l)[i] := ⟨_, rfl⟩
    rw [← hse] at hin hte htf
    have hg0 : ((order l).map encI).getD i [] = [.int .i64 s] := by rw [getD_map hio, encI, hse]
    have hd1 : decide ((i : Int) < ((order l).length : Int)) = true := decide_eq_true (by omega)
    have hd2 : decide ((i : Int) < (l.length : Int)) = true := decide_eq_true (by omega)
    rcases ixF_cases (evIs 1 s) l with ⟨e1, hno⟩ | ⟨j, hjl, e1, hp, hno⟩
    · have hst : repStep l m s = (m, false) := by simp [repStep, find_no hno]
      rw [hst] at hin
      simp (maxSteps := 2000000) only [go_sem, ↓reduceIte, reduceCtorEq, Nat.reduceAdd, Nat.reduceMul, Nat.reduceSub, Nat.reduceLT, Nat.reduceLeDiff, Nat.reduceEqDiff, Int.reduceToNat, Int.reduceLT, Int.reduceLE, Int.reduceNeg, hd1, hd2, hw, hg0, List.length_map]
      repeat ((with_reducible show _ ∧ _); refine scA ?_)
      refine CallK_os [0] e28 (by simp [osOk, St.obj, find]) (c28_a l hz m s hno) rfl ?_
      simp (maxSteps := 2000000) only [go_sem, ↓reduceIte, reduceCtorEq, Nat.reduceAdd, Nat.reduceMul, Nat.reduceSub, Nat.reduceLT, Nat.reduceLeDiff, Nat.reduceEqDiff, Int.reduceToNat, Int.reduceLT, Int.reduceLE, Int.reduceNeg, hd1, hd2, hw, hg0, List.length_map]
      repeat ((with_reducible show _ ∧ _); refine scA ?_)
      (apply hK
       exact ⟨cN - (i + 1), _, by omega, Ent.wk [0, 1], i + 1, m, (a && false), by omega, rfl, ⟨hin, hml⟩, rfl⟩)
    · have hfj := find_ix hjl hp hno
      have hst : repStep l m s = ((cmdsDo m l[j].Cmds).1, decide ((cmdsDo m l[j].Cmds).2 = l[t].Res)) := by simp only [repStep, hfj, htf]
      rw [hst] at hin
      have hln2 := cmdsDo_len2 m l[j].Cmds
      simp (maxSteps := 2000000) only [go_sem, ↓reduceIte, reduceCtorEq, Nat.reduceAdd, Nat.reduceMul, Nat.reduceSub, Nat.reduceLT, Nat.reduceLeDiff, Nat.reduceEqDiff, Int.reduceToNat, Int.reduceLT, Int.reduceLE, Int.reduceNeg, hd1, hd2, hw, hg0, List.length_map]
      repeat ((with_reducible show _ ∧ _); refine scA ?_)
      refine CallK_os [0] e28 (by simp [osOk, St.obj, find]) (c28_b l hz m hml s hjl htl e1 hte) rfl ?_
      simp (maxSteps := 2000000) only [go_sem, ↓reduceIte, reduceCtorEq, Nat.reduceAdd, Nat.reduceMul, Nat.reduceSub, Nat.reduceLT, Nat.reduceLeDiff, Nat.reduceEqDiff, Int.reduceToNat, Int.reduceLT, Int.reduceLE, Int.reduceNeg, hd1, hd2, hw, hg0, List.length_map]
      repeat ((with_reducible show _ ∧ _); refine scA ?_)
      (apply hK
       exact ⟨cN - (i + 1), _, by omega, Ent.wk [2, 1], i + 1, (cmdsDo m l[j].Cmds).1, (a && decide ((cmdsDo m l[j].Cmds).2 = l[t].Res)), by omega, rfl, ⟨hin, by omega⟩, rfl⟩)
  · have hge' : cN = i := by omega
    subst hge'
    have hdi : decide (((cN : Nat) : Int) < ((cN : Nat) : Int)) = false := by simp
    obtain ⟨hin, _⟩ := hinv
    rw [List.drop_eq_nil_of_le (by rw [List.length_take]; omega), repGo] at hin
    have hde : decide ((cN : Int) < ((order l).length : Int)) = false := decide_eq_false (by omega)
    simp (maxSteps := 2000000) only [go_sem, ↓reduceIte, reduceCtorEq, Nat.reduceAdd, Nat.reduceMul, Nat.reduceSub, Nat.reduceLT, Nat.reduceLeDiff, Nat.reduceEqDiff, Int.reduceToNat, Int.reduceLT, Int.reduceLE, Int.reduceNeg, hde, List.length_map]
    apply hK
    refine evl ?_
    rw [hin]
    refine Fin.nt Try.results7 [0] ?_ ?_ ?_ <;> try trivial
    all_goals simp [objsLe, envLe, find, St.obj, AObj.renF, AV.renF, AV.renF1, Leaf.renF, LowAll, AV.Low, AV.Low1, Leaf.Low, AObj.Low, Ptr.renF, Ptr.Low]
theorem c15 (l : List TEv) (hz : sizTEvS l ≤ 1048576) (n : Int) : Ctr Try.prog 15 [.one (.dat (.sl 6 (l.map encTEv))), .one (.dat (.int .i64 n))] [] (.one (.own 0)) [.vec 2 true ((replayM l n).1.map encKV)] := by
  have hmx : maxLen = 9223372036854775807 := rfl
  have hll : l.length ≤ 1048576 := by unfold sizTEvS at hz; omega
  have hol := order_len l
  have hod := fun s hs => order_told (L := l) (s := s) hs
  have hco := c27 l (by omega)
  obtain ⟨cN, hKe⟩ : ∃ cN, cN = min (order l).length n.toNat := ⟨_, rfl⟩
  have hKl : cN ≤ (order l).length := by omega
  have hTK : (order l).take n.toNat = (order l).take cN := by
    rw [hKe, Nat.min_comm, List.take_eq_take_min]
  unfold replayM
  rw [hTK]
  refine Ctr.bd mixed Try.func15 rfl ?_
  refine evl ?_
  repeat ((with_reducible show _ ∧ _); refine scA ?_)
  first | refine CallK_pure e27 (hco) rfl ?_ | refine EffK_pw e27 (hco) rfl ?_ | refine EffK_pu e27 (hco) rfl ?_ | refine CCallK_pl e27 (hco) rfl rfl ?_ | refine CCallK_pm e27 (hco) rfl rfl ?_
  refine evl ?_
  repeat ((with_reducible show _ ∧ _); refine scA ?_)
  refine LoopK_intro (fun zn zs => ∃ (i : Nat) (m : List KV) (a : Bool), i ≤ cN ∧ zn = cN - i ∧ (repGo l [] true ((order l).take cN) = repGo l m a (((order l).take cN).drop i) ∧ m.length ≤ 101) ∧ zs = mkSt [(7, .one (.dat (.int .i64 i))), (5, .one (.own 0)), (6, .one (.own 1)), (0, .one (.dat (.sl 6 (l.map encTEv)))), (1, .one (.dat (.int .i64 n)))] [.vec 2 true (m.map encKV), .vec 1 true ((order l).map encI)]) (cN) _
    (Ent.wk [0, 1]) ⟨0, [], true, by omega, by omega, ⟨rfl, by decide⟩, rfl⟩ ?_
  rintro zn zs ⟨i, m, a, hi, rfl, hinv, rfl⟩ K hK
  rcases Nat.lt_or_ge i (cN) with hlt | hge
  · have hdi : decide ((i : Int) < ((cN : Nat) : Int)) = true := decide_eq_true (by omega)
    have hw := wrap_succ hlt (show cN ≤ maxLen by omega)
    have hio : i < (order l).length := by omega
    have hdr : ((order l).take cN).drop i = (order l)[i] :: ((order l).take cN).drop (i + 1) := by
      rw [List.drop_eq_getElem_cons (by rw [List.length_take]; omega), List.getElem_take]
    obtain ⟨hin, hml⟩ := hinv
    obtain ⟨t, htl, hte, htf⟩ := hod (order l)[i] (List.getElem_mem hio)
    rw [hdr, repGo] at hin
    obtain ⟨s, hse⟩ : ∃ s, s = (order l)[i] := ⟨_, rfl⟩
    rw [← hse] at hin hte htf
    have hg0 : ((order l).map encI).getD i [] = [.int .i64 s] := by rw [getD_map hio, encI, hse]
    have hd1 : decide ((i : Int) < ((order l).length : Int)) = true := decide_eq_true (by omega)
    have hd2 : decide ((i : Int) < n) = true := decide_eq_true (by omega)
    rcases ixF_cases (evIs 1 s) l with ⟨e1, hno⟩ | ⟨j, hjl, e1, hp, hno⟩
    · have hst : repStep l m s = (m, false) := by simp [repStep, find_no hno]
      rw [hst] at hin
      simp (maxSteps := 2000000) only [go_sem, ↓reduceIte, reduceCtorEq, Nat.reduceAdd, Nat.reduceMul, Nat.reduceSub, Nat.reduceLT, Nat.reduceLeDiff, Nat.reduceEqDiff, Int.reduceToNat, Int.reduceLT, Int.reduceLE, Int.reduceNeg, hd1, hd2, hw, hg0, List.length_map]
      repeat ((with_reducible show _ ∧ _); refine scA ?_)
      refine CallK_os [0] e28 (by simp [osOk, St.obj, find]) (c28_a l hz m s hno) rfl ?_
      simp (maxSteps := 2000000) only [go_sem, ↓reduceIte, reduceCtorEq, Nat.reduceAdd, Nat.reduceMul, Nat.reduceSub, Nat.reduceLT, Nat.reduceLeDiff, Nat.reduceEqDiff, Int.reduceToNat, Int.reduceLT, Int.reduceLE, Int.reduceNeg, hd1, hd2, hw, hg0, List.length_map]
      repeat ((with_reducible show _ ∧ _); refine scA ?_)
      (apply hK
       exact ⟨cN - (i + 1), _, by omega, Ent.wk [0, 1], i + 1, m, (a && false), by omega, rfl, ⟨hin, hml⟩, rfl⟩)
    · have hfj := find_ix hjl hp hno
      have hst : repStep l m s = ((cmdsDo m l[j].Cmds).1, decide ((cmdsDo m l[j].Cmds).2 = l[t].Res)) := by simp only [repStep, hfj, htf]
      rw [hst] at hin
      have hln2 := cmdsDo_len2 m l[j].Cmds
      simp (maxSteps := 2000000) only [go_sem, ↓reduceIte, reduceCtorEq, Nat.reduceAdd, Nat.reduceMul, Nat.reduceSub, Nat.reduceLT, Nat.reduceLeDiff, Nat.reduceEqDiff, Int.reduceToNat, Int.reduceLT, Int.reduceLE, Int.reduceNeg, hd1, hd2, hw, hg0, List.length_map]
      repeat ((with_reducible show _ ∧ _); refine scA ?_)
      refine CallK_os [0] e28 (by simp [osOk, St.obj, find]) (c28_b l hz m hml s hjl htl e1 hte) rfl ?_
      simp (maxSteps := 2000000) only [go_sem, ↓reduceIte, reduceCtorEq, Nat.reduceAdd, Nat.reduceMul, Nat.reduceSub, Nat.reduceLT, Nat.reduceLeDiff, Nat.reduceEqDiff, Int.reduceToNat, Int.reduceLT, Int.reduceLE, Int.reduceNeg, hd1, hd2, hw, hg0, List.length_map]
      repeat ((with_reducible show _ ∧ _); refine scA ?_)
      (apply hK
       exact ⟨cN - (i + 1), _, by omega, Ent.wk [2, 1], i + 1, (cmdsDo m l[j].Cmds).1, (a && decide ((cmdsDo m l[j].Cmds).2 = l[t].Res)), by omega, rfl, ⟨hin, by omega⟩, rfl⟩)
  · have hge' : cN = i := by omega
    subst hge'
    have hdi : decide (((cN : Nat) : Int) < ((cN : Nat) : Int)) = false := by simp
    obtain ⟨hin, _⟩ := hinv
    rw [List.drop_eq_nil_of_le (by rw [List.length_take]; omega), repGo] at hin
    have hde : (bif decide ((cN : Int) < ((order l).length : Int)) then decide ((cN : Int) < n) else false) = false := by
      by_cases h1 : (cN : Int) < ((order l).length : Int)
      · rw [decide_eq_true h1, cond_true]; exact decide_eq_false (by omega)
      · rw [decide_eq_false h1]; rfl
    simp (maxSteps := 2000000) only [go_sem, ↓reduceIte, reduceCtorEq, Nat.reduceAdd, Nat.reduceMul, Nat.reduceSub, Nat.reduceLT, Nat.reduceLeDiff, Nat.reduceEqDiff, Int.reduceToNat, Int.reduceLT, Int.reduceLE, Int.reduceNeg, hde, List.length_map]
    repeat ((with_reducible show _ ∧ _); refine scA ?_)
    apply hK
    refine evl ?_
    rw [hin]
    refine Fin.nt Try.results15 [0] ?_ ?_ ?_ <;> try trivial
    all_goals simp [objsLe, envLe, find, St.obj, AObj.renF, AV.renF, AV.renF1, Leaf.renF, LowAll, AV.Low, AV.Low1, Leaf.Low, AObj.Low, Ptr.renF, Ptr.Low]
end Go.Proofs.Ytjfpaiencojehaa.Mod
