/- FnExactPending: the program answers as the statement says, at every argument. -/
import Derived.Test.YtcanhdhlbghfiaaGreatRows
import Derived.Test.YtcanhdhlbghfiaaGreatCTy
import Derived.Test.YtcanhdhlbghfiaaGreatAbsTac
import Derived.Test.YtcanhdhlbghfiaaGreatAbsData
import Derived.Test.YtcanhdhlbghfiaaGreatWhole
import Derived.Test.YtcanhdhlbghfiaaGreatCBase
import Derived.Test.YtcanhdhlbghfiaaGreatCNum
import Derived.Test.YtcanhdhlbghfiaaGreatCFam
import Derived.Test.YtcanhdhlbghfiaaGreatCFam2
import Derived.Test.YtcanhdhlbghfiaaGreatCSok
import Derived.Test.YtcanhdhlbghfiaaGreatCFam3
import Derived.Test.YtcanhdhlbghfiaaGreatCSl
import Derived.Test.YtcanhdhlbghfiaaGreatCSl2
import Derived.Test.YtcanhdhlbghfiaaGreatCSl3
import Derived.Test.YtcanhdhlbghfiaaGreatCMap
import Derived.Test.YtcanhdhlbghfiaaGreatCHist
import Derived.Test.YtcanhdhlbghfiaaGreatCHeap
import Derived.Test.YtcanhdhlbghfiaaGreatCLists
import Derived.Test.YtcanhdhlbghfiaaGreatCStore
import Derived.Test.YtcanhdhlbghfiaaGreatCIdle
import Derived.Test.YtcanhdhlbghfiaaGreatCSame
import Derived.Test.YtcanhdhlbghfiaaGreatCValid
import Derived.Test.YtcanhdhlbghfiaaGreatCSorts
import Derived.WalkKit
import Derived.ProofKit
import Derived.OpenShut
namespace Go.Proofs.YtcanhdhlbghfiaaGreat.Mod
open Go.Proofs.Tryz Go.Abs Go.Proofs.YtcanhdhlbghfiaaGreat.Ty Go.ChangeShapes Go.WideShapes Go.ChangeAt Go.RowKit
set_option linter.unusedSimpArgs false
set_option linter.unusedVariables false
set_option maxHeartbeats 8000000
set_option maxRecDepth 100000
theorem c228 (l : List Int) (hl : l.length <= 1048576) : Ctr prog 228 [.one (.dat (.sl 1 (l.map encI)))] [] (.one (.own 0)) [.vec 1 true (l.map encI)] := by
 have hfl : ∀ r ∈ l.map encI, ∀ d ∈ r, d.flat = true := by
  intro r hr d hd
  obtain ⟨y, _, rfl⟩ := List.mem_map.1 hr
  simp only [encI, List.mem_cons, List.not_mem_nil, or_false] at hd
  subst hd; rfl
 refine Ctr.bd mixed func228 rfl ?_
 refine sv14 ?_
 refine scs ?_
 refine Fin.nt results228 [1] ?_ ?_ ?_ <;> try trivial
 all_goals exact entd
def effPin (p : Pin) : Bool := p.On && !p.Marked
theorem c101 (p : Pin) : Ctr prog 101 [.agg ((encPin p).map .dat)] [] (.one (.dat (.bool (effPin p)))) [] := by
 simp only [encPin, List.map_cons, List.map_nil]
 refine Ctr.bd mixed func101 rfl ?_
 refine evl ?_
 refine scs ?_
 refine Fin.nt results101 [] ?_ ?_ ?_ <;> try trivial
 (refine rsl ?_; try exact .intro)
 simp only [effPin]
 cases p.On <;> rfl
def tGuards (j : TJob) (p : Pin) : Bool := j.Busy && (within j.Pc 3 4 && effPin p)
def gGo : List TJob -> List Pin -> List Int
 | j :: J, p :: Ps => if tGuards j p then j.H :: gGo J Ps else gGo J Ps
 | _, _ => []
theorem gGo_nil (Ps : List Pin) : gGo [] Ps = [] := by cases Ps <;> rfl
theorem gGo_len : ∀ (J : List TJob) (Ps : List Pin), (gGo J Ps).length <= J.length
 | [], _ => by simp [gGo]
 | j :: J, [] => by simp [gGo]
 | j :: J, p :: Ps => by
  have := gGo_len J Ps
  rw [gGo]
  split <;> simp <;> omega
def nz (l : List Int) : List Int := l.filter fun n => !(n == 0)
theorem nz_cons (x : Int) (l : List Int) : nz (x :: l) = if x = 0 then nz l else x :: nz l := by
 unfold nz
 by_cases h : x = 0 <;> simp [h]
theorem nz_app (a b : List Int) : nz (a ++ b) = nz a ++ nz b := by simp [nz]
theorem nz_len (l : List Int) : (nz l).length <= l.length := List.length_filter_le ..
def guardedM (t : Table) : List Int := bif tableOk t then gGo t.Jobs t.Base.Clock.Pins else []
def tguardedM (t : Table) : List Int := ascN (guardedM t)
theorem ascN_nz (l : List Int) : ascN l = putsN [] (nz l) := rfl
theorem clockOk_len {c : Clock} (h : clockOk c = true) : c.Pins.length = 3 := by
 simp only [clockOk, Bool.and_eq_true, decide_eq_true_eq] at h
 omega
theorem guardedM_len {t : Table} (h : tableOk t = true) : (guardedM t).length <= 3 := by
 obtain ⟨_, _, h3, _⟩ := tableOk_parts h
 have := gGo_len t.Jobs t.Base.Clock.Pins
 rw [guardedM, h]
 simp only [cond_true]
 omega
theorem tguardedM_len (t : Table) : (tguardedM t).length <= 3 := by
 have := ascN_len (guardedM t)
 unfold tguardedM
 cases h : tableOk t with
 | false =>
  have hg : guardedM t = [] := by rw [guardedM, h]; rfl
  rw [hg]; decide
 | true => have := guardedM_len h; omega
def pc1 (j : TJob) : Bool := within j.Pc 6 8 || (j.Pc == 16 || j.Pc == 17)
def pendM (j : TJob) : List Int :=
 bif pc1 j then j.New
 else bif within j.Pc 9 13 then j.New.drop (min (cntPut (j.Writes.take j.K.toNat)) j.New.length) ++ j.Olds
 else bif j.Pc == 14 then j.Olds
 else bif j.Pc == 15 then j.Olds.drop (min j.K.toNat j.Olds.length)
 else []
theorem pendM_sub (j : TJob) : ∀ x ∈ pendM j, x ∈ j.New \/ x ∈ j.Olds := by
 intro x
 unfold pendM
 cases pc1 j <;> cases within j.Pc 9 13 <;> cases j.Pc == 14 <;> cases j.Pc == 15 <;> simp only [cond_true, cond_false, List.mem_append, List.not_mem_nil] <;> intro h
 all_goals first | exact .inl h | exact .inr h | exact h.elim | exact .inr (List.mem_of_mem_drop h) | exact h.imp List.mem_of_mem_drop id
theorem pendM_len (j : TJob) : (pendM j).length <= j.New.length + j.Olds.length := by
 unfold pendM
 cases pc1 j <;> cases within j.Pc 9 13 <;> cases j.Pc == 14 <;> cases j.Pc == 15 <;> simp <;> omega
theorem min_go (a b : Nat) : (if (b : Int) < (a : Int) then (b : Int) else (a : Int)) = ((min a b : Nat) : Int) := by split <;> omega
theorem min_go2 (k : Int) (b : Nat) (h : 0 <= k) : (if (b : Int) < k then (b : Int) else k) = ((min k.toNat b : Nat) : Int) := by split <;> omega
theorem min_go3 (k : Int) (b : Nat) (h : 0 <= k) : (if k < (b : Int) then k else (b : Int)) = ((min k.toNat b : Nat) : Int) := by split <;> omega
theorem drop_take_map (l : List Int) (k : Nat) : List.take (l.length - k) (List.drop k (l.map encI)) = (l.drop k).map encI := by
 rw [<- List.map_drop, List.take_of_length_le (by simp)]
theorem fewH_iff {l : List Int} (h : fewH l = true) : l.length <= 6 /\ ∀ x ∈ l, handleOk x = true := by
 simp only [fewH, Bool.and_eq_true, decide_eq_true_eq, List.all_eq_true] at h
 exact ⟨by omega, h.2⟩
theorem tjob_parts {j : TJob} (h : tjobOk j = true) : 0 <= j.K /\ j.New.length <= 6 /\ j.Olds.length <= 6 /\ ∀ x ∈ pendM j, handleOk x = true := by
 unfold tjobOk at h
 cases hb : j.Busy with
 | true =>
  rw [hb] at h
  simp only [cond_true, jobOn, Bool.and_eq_true] at h
  obtain ⟨_, _, _, _, _, hk, hn, ho, _⟩ := h
  obtain ⟨n1, n2⟩ := fewH_iff hn
  obtain ⟨o1, o2⟩ := fewH_iff ho
  refine ⟨by simp only [within, decide_eq_true_eq] at hk; omega, n1, o1, fun x hx => (pendM_sub j x hx).elim (n2 x) (o2 x)⟩
 | false =>
  rw [hb] at h
  have : j = zeroTJob := by simpa using h
  subst this
  exact ⟨Int.le_refl _, by decide, by decide, fun x hx => (pendM_sub _ x hx).elim (fun h => by cases h) (fun h => by cases h)⟩
theorem handle_ne {x : Int} (h : handleOk x = true) : x ≠ 0 := by
 have := (handleOk_iff x).1 h; omega
theorem nz_handles {l : List Int} (h : ∀ x ∈ l, handleOk x = true) : nz l = l := by
 unfold nz
 rw [List.filter_eq_self.2]
 intro x hx
 have := handle_ne (h x hx)
 simp [this]
def pendGo : List TJob -> List Int
 | [] => []
 | j :: J => (bif j.Busy then pendM j else []) ++ pendGo J
theorem pendGo_len : ∀ (J : List TJob), (∀ j ∈ J, tjobOk j = true) -> (pendGo J).length <= 12 * J.length
 | [], _ => by simp [pendGo]
 | j :: J, h => by
  have h1 := pendGo_len J fun x hx => h x (List.mem_cons_of_mem _ hx)
  obtain ⟨_, h2, h3, _⟩ := tjob_parts (h j (by simp))
  have h4 := pendM_len j
  rw [pendGo, List.length_append, List.length_cons]
  cases j.Busy
  ·simp; omega
  ·simp only [cond_true]; omega
theorem pendGo_ok : ∀ (J : List TJob), (∀ j ∈ J, tjobOk j = true) -> ∀ x ∈ pendGo J, handleOk x = true
 | [], _, x, hx => by simp [pendGo] at hx
 | j :: J, h, x, hx => by
  rw [pendGo, List.mem_append] at hx
  rcases hx with hx | hx
  ·cases hb : j.Busy with
   | true => rw [hb] at hx; exact (tjob_parts (h j (by simp))).2.2.2 x hx
   | false => rw [hb] at hx; cases hx
  ·exact pendGo_ok J (fun y hy => h y (List.mem_cons_of_mem _ hy)) x hx
def pendAll (t : Table) : List Int := bif tableOk t then pendGo t.Jobs else []
def pendingM (t : Table) : List Int := ascN (pendAll t)
theorem pendAll_len (t : Table) : (pendAll t).length <= 36 := by
 unfold pendAll
 cases h : tableOk t with
 | false => simp
 | true =>
  obtain ⟨_, _, h3, h4, _⟩ := tableOk_parts h
  have := pendGo_len t.Jobs h4
  rw [h3] at this
  exact this
theorem pendAll_ok (t : Table) : ∀ x ∈ pendAll t, handleOk x = true := by
 unfold pendAll
 cases h : tableOk t with
 | false => intro x hx; cases hx
 | true => exact pendGo_ok t.Jobs (tableOk_parts h).2.2.2.1
theorem pendingM_len (t : Table) : (pendingM t).length <= 36 := Nat.le_trans (ascN_len _) (pendAll_len t)
theorem pc1_a {j : TJob} {b : Bool} (h : (bif within j.Pc 6 8 then true else bif j.Pc == 16 then true else j.Pc == 17) = b) : pc1 j = b := by
 rw [<- h, pc1]; cases within j.Pc 6 8 <;> cases j.Pc == 16 <;> rfl
theorem pc1_b {j : TJob} {b : Bool} (h : (bif bif within j.Pc 6 8 then true else j.Pc == 16 then true else j.Pc == 17) = b) : pc1 j = b := by
 rw [<- h, pc1]; cases within j.Pc 6 8 <;> cases j.Pc == 16 <;> rfl
theorem c110 (j : TJob) (hs : j.sok) (hk : 0 <= j.K) (hn : j.New.length <= 6) (ho : j.Olds.length <= 6) : CtrB prog 110 [.agg ((encTJob j).map .dat)] (.one (.dat (.sl 1 ((pendM j).map encI)))) [] := by
 have hmx : maxLen = 9223372036854775807 := rfl
 obtain ⟨⟨hb, _⟩, h1, h2, h3, h4, h5, h6, _⟩ := hs
 have hcp := c229 j.Writes (by omega) j.K
 have hm1 := min_go (cntPut (j.Writes.take j.K.toNat)) j.New.length
 have hm2 := min_go2 j.K j.Olds.length hk
 have hd1 := drop_take_map j.New (min (cntPut (j.Writes.take j.K.toNat)) j.New.length)
 have hd2 := drop_take_map j.Olds (min j.K.toNat j.Olds.length)
 have hcc := c107 [j.New.drop (min (cntPut (j.Writes.take j.K.toNat)) j.New.length), j.Olds] (by simp) (by simp [sumIL]; omega)
 simp only [encIL, List.map_cons, List.map_nil, List.flatten_cons, List.flatten_nil, List.append_nil] at hcc
 simp only [encTJob, List.map_cons, List.map_nil]
 refine CtrB.body mixed func110 rfl (by kernel_rfl) (Nat.le_of_ble_eq_true rfl) (by simp [AV.isDat, Leaf.isDat]) (by simp [AV.Sh, AV.Sh1, Leaf.Sh]) (by simp [AObj.IsVec]) (by simp [AV.up, AV.up1, Leaf.up, AV.Low, AV.Low1, Leaf.Low]) (fun bl => ?_)
 refine sv34 ?_
 refine scs ?_
 refine ck e73 (c73 j.Pc 6 8) rfl ?_
 refine sv34 ?_
 refine scs ?_
 constructor <;> intro hq
 ·have hc := pc1_b hq
  rw [pendM, hc]
  refine Fin.nt results110 [0] ?_ ?_ ?_ <;> try trivial
  all_goals exact entd
 have hc1 := pc1_b hq
 clear hq
 refine ck e73 (c73 j.Pc 9 13) rfl ?_
 refine sv34 ?_
 refine scs ?_
 constructor <;> intro hq
 ·rw [pendM, hc1, hq]
  refine ck e229 (hcp) rfl ?_
  simp (maxSteps := 2000000) only [go_sem, seval, List.append_eq, hm1, hd1]
  refine ⟨⟨by omega, by omega, by omega⟩, by kernel_rfl, ?_⟩
  refine ck e107 (hcc) rfl ?_
  refine sv34 ?_
  refine Fin.ent (Ent.toDat (t := 2) (o := 3) rfl rfl) ?_
  refine sv34 ?_
  refine Fin.nt results110 [0] ?_ ?_ ?_ <;> try trivial
  all_goals exact entd
 constructor <;> intro hq2
 ·rw [pendM, hc1, hq, hq2]
  refine Fin.nt results110 [0] ?_ ?_ ?_ <;> try trivial
  all_goals exact entd
 constructor <;> intro hq3
 ·rw [pendM, hc1, hq, hq2, hq3]
  refine sv49 ?_
  refine ⟨⟨by omega, by omega, by omega⟩, ?_⟩
  refine Fin.nt results110 [0] ?_ ?_ ?_ <;> try trivial
  all_goals exact entd
 ·rw [pendM, hc1, hq, hq2, hq3]
  refine Fin.ent (Ent.empDat 1 (t := 2) rfl) ?_
  refine sv34 ?_
  refine Fin.nt results110 [0] ?_ ?_ ?_ <;> try trivial
  all_goals exact entd
theorem c109 (j : TJob) (hs : j.sok) (hk : 0 <= j.K) (hn : j.New.length <= 6) (ho : j.Olds.length <= 6) : Ctr prog 109 [.agg ((encTJob j).map .dat)] [] (.one (.own 0)) [.vec 1 true ((pendM j).map encI)] := by
 have hmx : maxLen = 9223372036854775807 := rfl
 obtain ⟨⟨hb, _⟩, h1, h2, h3, h4, h5, h6, _⟩ := hs
 have hcp := c227 j.Writes (by omega) j.K
 have hm1 : (if (cntPut (j.Writes.take j.K.toNat) : Int) < (j.New.length : Int) then (cntPut (j.Writes.take j.K.toNat) : Int) else (j.New.length : Int)) = ((min (cntPut (j.Writes.take j.K.toNat)) j.New.length : Nat) : Int) := by split <;> omega
 have hm2 := min_go3 j.K j.Olds.length hk
 have hd1 := drop_take_map j.New (min (cntPut (j.Writes.take j.K.toNat)) j.New.length)
 have hd2 := drop_take_map j.Olds (min j.K.toNat j.Olds.length)
 have hce := c228 [] (by simp)
 have hcn := c228 j.New (by omega)
 have hcd := c228 (j.New.drop (min (cntPut (j.Writes.take j.K.toNat)) j.New.length)) (by simp; omega)
 have hfl : ∀ L : List Int, ∀ r ∈ L.map encI, ∀ d ∈ r, d.flat = true := by
  intro L r hr d hd
  obtain ⟨y, _, rfl⟩ := List.mem_map.1 hr
  simp only [encI, List.mem_cons, List.not_mem_nil, or_false] at hd
  subst hd; rfl
 simp only [List.map_nil] at hce
 simp only [encTJob, List.map_cons, List.map_nil]
 refine Ctr.bd mixed func109 rfl ?_
 refine sv34 ?_
 refine scs ?_
 refine ck e57 (c57 j.Pc 6 8) rfl ?_
 refine sv34 ?_
 refine scs ?_
 constructor <;> intro hq
 ·have hc := pc1_b hq
  rw [pendM, hc, cond_true]
  refine ck e228 (hcn) rfl ?_
  refine sv50 ?_
  refine ⟨⟨by simp, by simp, by omega, by omega⟩, ?_⟩
  refine Fin.nt results109 [4] ?_ ?_ ?_ <;> try trivial
  all_goals exact entd
 have hc1 := pc1_b hq
 clear hq
 refine ck e57 (c57 j.Pc 9 13) rfl ?_
 refine sv50 ?_
 refine scs ?_
 constructor <;> intro hq
 ·rw [pendM, hc1, hq, cond_false, cond_true]
  first | refine CCallK_pl e227 (hcp) rfl rfl ?_ | refine CCallK_pm e227 (hcp) rfl rfl ?_
  simp (maxSteps := 2000000) only [go_sem, seval, List.append_eq, List.append_nil, List.nil_append, hm1, hd1]
  refine ⟨⟨by omega, by omega, by omega⟩, ?_⟩
  refine ck e228 (hcd) rfl ?_
  refine sv50 ?_
  refine ⟨⟨hfl j.Olds, by simp, by simp; omega, by simp; omega⟩, ?_⟩
  refine Fin.nt results109 [4] ?_ ?_ ?_ <;> try trivial
  all_goals exact entd
 constructor <;> intro hq2
 ·rw [pendM, hc1, hq, hq2, cond_false, cond_false, cond_true]
  refine ck e228 (hce) rfl ?_
  refine sv50 ?_
  refine ⟨⟨hfl j.Olds, by simp, by omega, by omega⟩, ?_⟩
  refine Fin.nt results109 [4] ?_ ?_ ?_ <;> try trivial
  all_goals exact entd
 constructor <;> intro hq3
 ·rw [pendM, hc1, hq, hq2, hq3, cond_false, cond_false, cond_false, cond_true]
  refine sv49 ?_
  refine ⟨⟨by omega, by omega, by omega⟩, ?_⟩
  refine ck e228 (hce) rfl ?_
  refine sv50 ?_
  refine ⟨⟨hfl _, by simp, by simp; omega, by simp; omega⟩, ?_⟩
  refine Fin.nt results109 [4] ?_ ?_ ?_ <;> try trivial
  all_goals exact entd
 ·rw [pendM, hc1, hq, hq2, hq3, cond_false, cond_false, cond_false, cond_false]
  refine ck e228 (hce) rfl ?_
  refine sv50 ?_
  refine ⟨⟨by simp, by simp⟩, ?_⟩
  refine Fin.nt results109 [4] ?_ ?_ ?_ <;> try trivial
  all_goals exact entd
theorem c36 (t : Table) (hz : sizTable t <= 1048576) : Ctr prog 36 [.agg ((encTable t).map .dat)] [] (.one (.own 0)) [.vec 1 true ((pendingM t).map encI)] := by
 have hmx : maxLen = 9223372036854775807 := rfl
 have hct := c16 t hz
 obtain ⟨z1, z2, z3, z4, z5⟩ := table_len hz
 have hml := pendAll_len t
 have hca := c102 (pendAll t) (by omega)
 have hcp := fun j hs hk hn ho => c110 j hs hk hn ho
 simp only [encTable, encTJob, List.map_cons, List.map_nil] at hct hcp ⊢
 refine Ctr.bd mixed func36 rfl ?_
 refine evl ?_
 refine scs ?_
 refine ck e16 (hct) rfl ?_
 refine sv14 ?_
 refine scs ?_
 constructor <;> intro hq
 ·have h0 : tableOk t = false := by simpa using hq
  have hg : pendingM t = [] := by rw [pendingM, pendAll, h0]; rfl
  rw [hg]
  refine Fin.nt results36 [1] ?_ ?_ ?_ <;> try trivial
  all_goals exact entd
 have h0 : tableOk t = true := by simpa using hq
 clear hq
 obtain ⟨hbo, _, h3, h4, _⟩ := tableOk_parts h0
 unfold pendingM
 rw [pendAll, h0, cond_true] at hml hca ⊢
 refine LoopK_intro (fun zn zs => ∃ (i : Nat) (o : List Int), i <= t.Jobs.length /\ zn = t.Jobs.length - i /\ (pendGo t.Jobs = o ++ pendGo (t.Jobs.drop i)) /\ zs = mkSt [(14, .one (.dat (.int .i64 i))), (13, .one (.dat (.int .i64 (t.Jobs.length)))), (12, .one (.dat (.sl 32 (t.Jobs.map encTJob)))), (1, .one (.ptr (.own 0 0 0))), (3, .one (.own 1))] [.box [.dat (.sl 1 (t.Base.Mem.Heap.Bytes.map encI)), .dat (.sl 1 (t.Base.Mem.Heap.Class.map encI)), .dat (.sl 1 (t.Base.Mem.Lists.Global.map encSList)), .dat (.sl 1 (t.Base.Mem.Lists.Own.map encSList)), .dat (.int .i64 t.Base.Clock.Epoch), .dat (.sl 4 (t.Base.Clock.Pins.map encPin)), .dat (.sl 1 (t.Base.Limbo.map encLList)), .dat (.sl 1 (t.Base.Haz.map encI)), .dat (.sl 3 (t.Bkts.map encBkt)), .dat (.sl 32 (t.Jobs.map encTJob)), .dat (.sl 1 (t.Todo.map encTQueue)), .dat (.sl 6 (t.Log.map encTEv)), .dat (.int .i64 t.Serial)], .vec 1 true (o.map encI)]) (t.Jobs.length) _
  (Ent.wk [0, 1]) ⟨0, [], by omega, by omega, rfl, rfl⟩ ?_
 rintro zn zs ⟨i, o, hi, rfl, hinv, rfl⟩ K hK
 rcases Nat.lt_or_ge i (t.Jobs.length) with hlt | hge
 ·have hdi : decide ((i : Int) < ((t.Jobs.length : Nat) : Int)) = true := decide_eq_true (by omega)
  have hw := wrap_succ hlt (show t.Jobs.length <= maxLen by omega)
  obtain ⟨j, hji⟩ : ∃ j, t.Jobs[i] = j := ⟨_, rfl⟩
  have hjm : j ∈ t.Jobs := hji ▸ List.getElem_mem hlt
  obtain ⟨k0, kn, ko, _⟩ := tjob_parts (h4 j hjm)
  rw [List.drop_eq_getElem_cons hlt, hji, pendGo] at hinv
  have hol : o.length + (pendM j).length <= 36 + 12 := by
   have := congrArg List.length hinv
   have hpm := pendM_len j
   rw [List.length_append] at this
   omega
  have hfl : ∀ r ∈ (pendM j).map encI, ∀ d ∈ r, d.flat = true := by
   intro r hr d hd
   obtain ⟨y, _, rfl⟩ := List.mem_map.1 hr
   simp only [encI, List.mem_cons, List.not_mem_nil, or_false] at hd
   subst hd; rfl
  refine sv55 ?_
  refine scs ?_
  constructor <;> intro hq
  ·rw [hq, cond_true] at hinv
   refine scs ?_
   refine CallK_share [] e110 (hcp j (z4 j hjm) k0 kn ko) rfl ?_
   refine sv55 ?_
   refine ⟨⟨hfl, List.not_mem_nil, by omega, by omega⟩, ?_⟩
   (apply hK
    exact ⟨t.Jobs.length - (i + 1), _, by omega, Ent.wk [0, 3], i + 1, (o ++ pendM j), by omega, rfl, by rw [hinv, List.append_assoc], rfl⟩)
  ·rw [hq, cond_false, List.nil_append] at hinv
   (apply hK
    exact ⟨t.Jobs.length - (i + 1), _, by omega, Ent.wk [0, 1], i + 1, o, by omega, rfl, hinv, rfl⟩)
 ·have hge' : t.Jobs.length = i := by omega
  subst hge'
  have hdi : decide (((t.Jobs.length : Nat) : Int) < ((t.Jobs.length : Nat) : Int)) = false := by simp
  have hoe : pendGo t.Jobs = o := by rw [hinv, List.drop_length, pendGo, List.append_nil]
  clear hinv
  refine sv3 ?_
  apply hK
  rw [hoe] at hca ⊢
  refine evl ?_
  refine scs ?_
  refine ck e102 (hca) rfl ?_
  refine evl ?_
  refine Fin.nt results36 [2] ?_ ?_ ?_ <;> try trivial
  all_goals exact entd
theorem pendGo_nz {J : List TJob} (h : ∀ j ∈ J, tjobOk j = true) : nz (pendGo J) = pendGo J := nz_handles (pendGo_ok J h)
theorem c35 (t : Table) (hz : sizTable t <= 1048576) : Ctr prog 35 [.agg ((encTable t).map .dat)] [] (.one (.own 0)) [.vec 1 true ((pendingM t).map encI)] := by
 have hmx : maxLen = 9223372036854775807 := rfl
 have hct := c14 t hz
 obtain ⟨z1, z2, z3, z4, z5⟩ := table_len hz
 have hcp := fun j hs hk hn ho => c109 j hs hk hn ho
 simp only [encTable, encTJob, List.map_cons, List.map_nil] at hct hcp ⊢
 cases h0 : tableOk t with
 | false =>
  have hg : pendingM t = [] := by rw [pendingM, pendAll, h0]; rfl
  rw [h0] at hct
  rw [hg]
  refine Ctr.bd mixed func35 rfl ?_
  refine evl ?_
  refine scs ?_
  refine ck e14 (hct) rfl ?_
  refine evl ?_
  refine LoopK_intro (fun zn zs => ∃ i : Nat, i <= 0 /\ zn = 0 - i /\ zs = mkSt [(5, .one (.dat (.int .i64 i))), (1, .one (.ptr (.own 0 0 0))), (3, .one (.own 1)), (4, .one (.dat (.bool false)))] [.box [.dat (.sl 1 (t.Base.Mem.Heap.Bytes.map encI)), .dat (.sl 1 (t.Base.Mem.Heap.Class.map encI)), .dat (.sl 1 (t.Base.Mem.Lists.Global.map encSList)), .dat (.sl 1 (t.Base.Mem.Lists.Own.map encSList)), .dat (.int .i64 t.Base.Clock.Epoch), .dat (.sl 4 (t.Base.Clock.Pins.map encPin)), .dat (.sl 1 (t.Base.Limbo.map encLList)), .dat (.sl 1 (t.Base.Haz.map encI)), .dat (.sl 3 (t.Bkts.map encBkt)), .dat (.sl 32 (t.Jobs.map encTJob)), .dat (.sl 1 (t.Todo.map encTQueue)), .dat (.sl 6 (t.Log.map encTEv)), .dat (.int .i64 t.Serial)], .vec 1 true []]) (0) _
   (Ent.wk [0, 1]) ⟨0, by omega, by omega, rfl⟩ ?_
  rintro zn zs ⟨i, hi, rfl, rfl⟩ K hK
  rcases Nat.lt_or_ge i (0) with hlt | hge
  ·have hdi : decide ((i : Int) < ((0 : Nat) : Int)) = true := decide_eq_true (by omega)
   have hw := wrap_succ hlt (by decide)
   exact absurd hlt (Nat.not_lt_zero _)
  ·have hge' : 0 = i := by omega
   subst hge'
   have hdi : decide (((0 : Nat) : Int) < ((0 : Nat) : Int)) = false := by simp
   have hd0 : decide (((0 : Nat) : Int) < 3) = true := rfl
   refine sv5 ?_
   apply hK
   refine evl ?_
   refine Fin.nt results35 [1] ?_ ?_ ?_ <;> try trivial
   all_goals exact entd
 | true =>
 obtain ⟨hbo, _, h3, h4, _⟩ := tableOk_parts h0
 have hpn := pendGo_nz h4
 rw [h0] at hct
 unfold pendingM
 rw [pendAll, h0, cond_true, ascN_nz, hpn]
 refine Ctr.bd mixed func35 rfl ?_
 refine evl ?_
 refine scs ?_
 refine ck e14 (hct) rfl ?_
 refine evl ?_
 refine LoopK_intro (fun zn zs => ∃ (i : Nat) (o : List Int), i <= 3 /\ zn = 3 - i /\ (putsN [] (pendGo t.Jobs) = putsN o (pendGo (t.Jobs.drop i)) /\ o.length <= 12 * i) /\ zs = mkSt [(5, .one (.dat (.int .i64 i))), (1, .one (.ptr (.own 0 0 0))), (3, .one (.own 1)), (4, .one (.dat (.bool true)))] [.box [.dat (.sl 1 (t.Base.Mem.Heap.Bytes.map encI)), .dat (.sl 1 (t.Base.Mem.Heap.Class.map encI)), .dat (.sl 1 (t.Base.Mem.Lists.Global.map encSList)), .dat (.sl 1 (t.Base.Mem.Lists.Own.map encSList)), .dat (.int .i64 t.Base.Clock.Epoch), .dat (.sl 4 (t.Base.Clock.Pins.map encPin)), .dat (.sl 1 (t.Base.Limbo.map encLList)), .dat (.sl 1 (t.Base.Haz.map encI)), .dat (.sl 3 (t.Bkts.map encBkt)), .dat (.sl 32 (t.Jobs.map encTJob)), .dat (.sl 1 (t.Todo.map encTQueue)), .dat (.sl 6 (t.Log.map encTEv)), .dat (.int .i64 t.Serial)], .vec 1 true (o.map encI)]) (3) _
  (Ent.wk [0, 1]) ⟨0, [], by omega, by omega, ⟨rfl, Nat.le_refl _⟩, rfl⟩ ?_
 rintro zn zs ⟨i, o, hi, rfl, hinv, rfl⟩ K hK
 rcases Nat.lt_or_ge i (3) with hlt | hge
 ·have hdi : decide ((i : Int) < ((3 : Nat) : Int)) = true := decide_eq_true (by omega)
  have hw := wrap_succ hlt (show 3 <= maxLen by decide)
  obtain ⟨hv1, hv2⟩ := hinv
  have hd3 : decide ((i : Int) < 3) = true := decide_eq_true (by omega)
  have hgi : i < t.Jobs.length := by omega
  obtain ⟨j, hji⟩ : ∃ j, t.Jobs[i] = j := ⟨_, rfl⟩
  have hjm : j ∈ t.Jobs := hji ▸ List.getElem_mem hgi
  obtain ⟨k0, kn, ko, _⟩ := tjob_parts (h4 j hjm)
  have hpm := pendM_len j
  rw [List.drop_eq_getElem_cons hgi, hji, pendGo, putsN_app] at hv1
  have hcj := hcp j (z4 j hjm) k0 kn ko
  obtain ⟨L, hL⟩ : ∃ L, pendM j = L := ⟨_, rfl⟩
  rw [hL] at hv1 hpm hcj
  refine sv44 ?_
  refine scs ?_
  refine ck e109 (hcj) rfl ?_
  refine sv44 ?_
  refine scs ?_
  cases hbz : j.Busy with
  | false =>
   rw [hbz, cond_false] at hv1
   refine LoopK_intro (fun zn zs => ∃ k : Nat, k <= L.length /\ zn = L.length - k /\ zs = mkSt [(7, .one (.dat (.int .i64 k))), (1, .one (.ptr (.own 0 0 0))), (5, .one (.dat (.int .i64 i))), (3, .one (.own 1)), (4, .one (.dat (.bool true))), (6, .one (.own 2))] [.box [.dat (.sl 1 (t.Base.Mem.Heap.Bytes.map encI)), .dat (.sl 1 (t.Base.Mem.Heap.Class.map encI)), .dat (.sl 1 (t.Base.Mem.Lists.Global.map encSList)), .dat (.sl 1 (t.Base.Mem.Lists.Own.map encSList)), .dat (.int .i64 t.Base.Clock.Epoch), .dat (.sl 4 (t.Base.Clock.Pins.map encPin)), .dat (.sl 1 (t.Base.Limbo.map encLList)), .dat (.sl 1 (t.Base.Haz.map encI)), .dat (.sl 3 (t.Bkts.map encBkt)), .dat (.sl 32 (t.Jobs.map encTJob)), .dat (.sl 1 (t.Todo.map encTQueue)), .dat (.sl 6 (t.Log.map encTEv)), .dat (.int .i64 t.Serial)], .vec 1 true (o.map encI), .vec 1 true (L.map encI)]) (L.length) _
    (Ent.wk [0, 1, 2]) ⟨0, by omega, by omega, rfl⟩ ?_
   rintro zn zs ⟨k, hi2, rfl, rfl⟩ K2 hK2
   rcases Nat.lt_or_ge k (L.length) with hlt2 | hge2
   ·have hdi2 : decide ((k : Int) < ((L.length : Nat) : Int)) = true := decide_eq_true (by omega)
    have hw2 := wrap_succ hlt2 (show L.length <= maxLen by omega)
    refine sv56 ?_
    refine scs ?_
    apply hK2
    refine sv56 ?_
    apply hK
    exact ⟨3 - (i + 1), _, by omega, Ent.wk [0, 1], i + 1, o, by omega, rfl, ⟨hv1, by omega⟩, rfl⟩
   ·have hge2' : L.length = k := by omega
    subst hge2'
    have hdi2 : decide (((L.length : Nat) : Int) < ((L.length : Nat) : Int)) = false := by simp
    refine sv57 ?_
    apply hK2
    refine sv0 ?_
    (apply hK
     exact ⟨3 - (i + 1), _, by omega, Ent.wk [0, 1], i + 1, o, by omega, rfl, ⟨hv1, by omega⟩, rfl⟩)
  | true =>
   rw [hbz, cond_true] at hv1
   refine LoopK_intro (fun zn zs => ∃ k : Nat, k <= L.length /\ zn = L.length - k /\ zs = mkSt [(7, .one (.dat (.int .i64 k))), (1, .one (.ptr (.own 0 0 0))), (5, .one (.dat (.int .i64 i))), (3, .one (.own 1)), (4, .one (.dat (.bool true))), (6, .one (.own 2))] [.box [.dat (.sl 1 (t.Base.Mem.Heap.Bytes.map encI)), .dat (.sl 1 (t.Base.Mem.Heap.Class.map encI)), .dat (.sl 1 (t.Base.Mem.Lists.Global.map encSList)), .dat (.sl 1 (t.Base.Mem.Lists.Own.map encSList)), .dat (.int .i64 t.Base.Clock.Epoch), .dat (.sl 4 (t.Base.Clock.Pins.map encPin)), .dat (.sl 1 (t.Base.Limbo.map encLList)), .dat (.sl 1 (t.Base.Haz.map encI)), .dat (.sl 3 (t.Bkts.map encBkt)), .dat (.sl 32 (t.Jobs.map encTJob)), .dat (.sl 1 (t.Todo.map encTQueue)), .dat (.sl 6 (t.Log.map encTEv)), .dat (.int .i64 t.Serial)], .vec 1 true ((putsN o (L.take k)).map encI), .vec 1 true (L.map encI)]) (L.length) _
    (Ent.wk [0, 1, 2]) ⟨0, by omega, by omega, rfl⟩ ?_
   rintro zn zs ⟨k, hi2, rfl, rfl⟩ K2 hK2
   rcases Nat.lt_or_ge k (L.length) with hlt2 | hge2
   ·have hdi2 : decide ((k : Int) < ((L.length : Nat) : Int)) = true := decide_eq_true (by omega)
    have hw2 := wrap_succ hlt2 (show L.length <= maxLen by omega)
    have hpk := putsN_len (L.take k) o
    have htk : L.take (k + 1) = L.take k ++ [L[k]] := List.take_succ_eq_append_getElem hlt2
    have hlk : (L.take k).length <= L.length := by rw [List.length_take]; omega
    refine sv58 ?_
    refine scs ?_
    refine CallK_os [1] e100 (by simp [osOk, St.obj, find]) (c100 (putsN o (L.take k)) (by omega) L[k]) rfl ?_
    refine sv58 ?_
    refine scs ?_
    rw [<- putsN_snoc, <- htk]
    (apply hK2
     exact ⟨L.length - (k + 1), _, by omega, Ent.wk [0, 3, 2], k + 1, by omega, rfl, rfl⟩)
   ·have hge2' : L.length = k := by omega
    subst hge2'
    have hdi2 : decide (((L.length : Nat) : Int) < ((L.length : Nat) : Int)) = false := by simp
    have hpk := putsN_len L o
    rw [List.take_length]
    refine sv57 ?_
    apply hK2
    refine sv0 ?_
    (apply hK
     exact ⟨3 - (i + 1), _, by omega, Ent.wk [0, 1], i + 1, (putsN o L), by omega, rfl, ⟨hv1, by omega⟩, rfl⟩)
 ·have hge' : 3 = i := by omega
  subst hge'
  have hdi : decide (((3 : Nat) : Int) < ((3 : Nat) : Int)) = false := by simp
  have hd3 : decide (((3 : Nat) : Int) < 3) = false := rfl
  have hoe : putsN [] (pendGo t.Jobs) = o := by
   rw [hinv.1, List.drop_of_length_le (by omega), pendGo]; rfl
  refine sv27 ?_
  apply hK
  rw [hoe]
  refine evl ?_
  refine Fin.nt results35 [1] ?_ ?_ ?_ <;> try trivial
  all_goals exact entd
end Go.Proofs.YtcanhdhlbghfiaaGreat.Mod
namespace Go.Proofs.YtcanhdhlbghfiaaGreat.fnExactPending
open Go.Proofs.Tryz Go.Abs Go.Proofs.YtcanhdhlbghfiaaGreat.Ty Go.ChangeShapes Go.WideShapes Go.ChangeAt Go.RowKit Go.Proofs.YtcanhdhlbghfiaaGreat.Mod
set_option linter.unusedSimpArgs false
set_option linter.unusedVariables false
set_option maxHeartbeats 8000000
set_option maxRecDepth 100000
theorem c9 (t : Table) (hkt : t.lok) : Ctr prog 9 [.agg ((encTable t).map .dat)] [] (.one (.dat (.bool true))) [] := by
 simp only [encTable, List.map_cons, List.map_nil]
 refine Ctr.bd mixed func9 rfl ?_
 refine sv14 ?_
 repeat ((with_reducible show _ = true /\ _); refine ⟨by kernel_rfl, ?_⟩)
 refine CallK_pure e13 (c13 t hkt 1048576 (by decide) (by decide)) rfl ?_
 refine sv14 ?_
 repeat ((with_reducible show _ = true /\ _); refine ⟨by kernel_rfl, ?_⟩)
 constructor <;> intro h
 ·refine Fin.nt results9 [] ?_ ?_ ?_ <;> try trivial
 obtain ⟨hst, hzt, hgt, hht⟩ := szL_le (by decide) h
 clear h
 repeat ((with_reducible show _ = true /\ _); refine ⟨by kernel_rfl, ?_⟩)
 have hokt := Table.sok_of hst
 have hcnt := mcTable_le t
 have hmx : maxLen = 9223372036854775807 := rfl
 have hr := pendingM_len t
 refine ck e15 (c15 t hst) rfl ?_
 refine sv14 ?_
 repeat ((with_reducible show _ = true /\ _); refine ⟨by kernel_rfl, ?_⟩)
 refine ck e35 (c35 t hst) rfl ?_
 refine sv14 ?_
 repeat ((with_reducible show _ = true /\ _); refine ⟨by kernel_rfl, ?_⟩)
 refine ck e15 (c15 t hst) rfl ?_
 refine sv14 ?_
 repeat ((with_reducible show _ = true /\ _); refine ⟨by kernel_rfl, ?_⟩)
 refine ck e36 (c36 t hst) rfl ?_
 refine sv14 ?_
 repeat ((with_reducible show _ = true /\ _); refine ⟨by kernel_rfl, ?_⟩)
 refine ck e30 (c30 (pendingM t) (pendingM t) (by omega) (by omega)) rfl ?_
 refine sv14 ?_
 repeat ((with_reducible show _ = true /\ _); refine ⟨by kernel_rfl, ?_⟩)
 refine ck e15 (c15 t hst) rfl ?_
 refine sv14 ?_
 repeat ((with_reducible show _ = true /\ _); refine ⟨by kernel_rfl, ?_⟩)
 refine ck e17 (c17 t t hst hst) rfl ?_
 refine sv14 ?_
 repeat ((with_reducible show _ = true /\ _); refine ⟨by kernel_rfl, ?_⟩)
 refine CallK_os [13, 14, 15, 16, 17, 18, 19, 20, 21, 22, 23] e25 (by simp [osOk, St.obj, find]) (c25 t hokt 1 (by omega) (by omega)) rfl ?_
 refine sv14 ?_
 repeat ((with_reducible show _ = true /\ _); refine ⟨by kernel_rfl, ?_⟩)
 have hkk : decide ((1 + (mcTable t : Int)) < 0) = false := by simp only [decide_eq_false_iff_not]; omega
 refine sv60 ?_
 repeat ((with_reducible show _ = true /\ _); refine ⟨by kernel_rfl, ?_⟩)
 refine ck e30 (c30 (pendingM t) (pendingM t) (by omega) (by omega)) rfl ?_
 refine sv60 ?_
 repeat ((with_reducible show _ = true /\ _); refine ⟨by kernel_rfl, ?_⟩)
 refine CallK_os [25] e31 (by simp [osOk, St.obj, find]) (c31 (pendingM t) 1 (by omega) (by omega)) rfl ?_
 refine sv60 ?_
 repeat ((with_reducible show _ = true /\ _); refine ⟨by kernel_rfl, ?_⟩)
 refine ck e32 (c32 ((pendingM t)).length 1 (by omega) (by omega)) rfl ?_
 refine sv60 ?_
 repeat ((with_reducible show _ = true /\ _); refine ⟨by kernel_rfl, ?_⟩)
 have hq1 : decide ((1 + 1 * (((pendingM t)).length : Int)) < 0) = false := by simp only [decide_eq_false_iff_not]; omega
 refine sv61 ?_
 repeat ((with_reducible show _ = true /\ _); refine ⟨by kernel_rfl, ?_⟩)
 refine ck e15 (c15 t hst) rfl ?_
 refine sv61 ?_
 repeat ((with_reducible show _ = true /\ _); refine ⟨by kernel_rfl, ?_⟩)
 refine ck e36 (c36 t hst) rfl ?_
 refine sv61 ?_
 repeat ((with_reducible show _ = true /\ _); refine ⟨by kernel_rfl, ?_⟩)
 refine ck e30 (c30 (pendingM t) (pendingM t) (by omega) (by omega)) rfl ?_
 refine sv61 ?_
 repeat ((with_reducible show _ = true /\ _); refine ⟨by kernel_rfl, ?_⟩)
 refine ck e32 (c32 ((pendingM t)).length 1 (by omega) (by omega)) rfl ?_
 refine sv61 ?_
 repeat ((with_reducible show _ = true /\ _); refine ⟨by kernel_rfl, ?_⟩)
 refine Fin.nt results9 [] ?_ ?_ ?_ <;> try trivial
theorem law (dss : List (List D)) (h : WTAll prog 8 f9.params.toList dss) : Ctr prog 9 (argAVs prog f9.params.toList dss) [] (.one (.dat (.bool true))) [] := by
 rw [params9] at *
 simp only [WTAll, List.toList_toArray] at h
 obtain ⟨_, _, rfl, h0, rfl⟩ := h
 obtain ⟨x0, rfl, w0, k0⟩ := decTable _ _ h0
 simp only [argAVs, argAV, List.toList_toArray, underlying41, List.headD_cons]
 exact c9 x0 k0

theorem own : ownKnob prog.godebug = none := by kernel_rfl

set_option maxRecDepth 100000 in
theorem lifted (os : Os) (started : os.Started) (H : Type) (enc : TypeId × Value -> H) :
  ReturnsInHanded {} Tryz.checked os 9 .any (Rows.fnExactPendingSpec.pre6 enc prog f9 Rows.fnExactPendingRow.domain false) (Rows.fnExactPendingSpec.post enc prog f9 false true false false) := by
 refine returnsInHanded_of_change (C := Tryz.checked) own started (by kernel_rfl) func9
  (ChangeSpec.witness6 (enc := enc) (C := Tryz.checked) false ⟨#[], #[.agg #[.slice none 0 0, .slice none 0 0, .slice none 0 0, .slice none 0 0, .int .i64 0, .slice none 0 0, .slice none 0 0, .slice none 0 0, .slice none 0 0, .slice none 0 0, .slice none 0 0, .slice none 0 0, .int .i64 0]], []⟩ 8 (by kernel_rfl) (by kernel_rfl) (by kernel_rfl) (by kernel_rfl)) ?_
 intro W base args ds gs before hval0 hW hcnd _
 have hW' := hW
 obtain ⟨p, q, hA0, hV, rfl, hfz, hnd⟩ := hW'
 have hA : DataW.TrodAll enc prog W 0 (fun _ => true) true f9.params.toList args.toList ds p := hA0
 obtain ⟨dss, h1, h2⟩ := args_rep (n := 8) (by kernel_rfl) (fun j t v hj hv => hval0 j t v (by simpa using hj) (by simpa using hv)) hA
 have hs : Rows.fnExactPendingSpec.fn H (ds ++ gs) = { results := [.lit (.bool true)], args := ds, vars := [] } := by
  obtain ⟨rfl, rfl⟩ := trodVars_none hV
  rw [params9] at hA
  obtain ⟨v0, vs0, d0, ds0, p0, q0, _, rfl, _, _, r0⟩ := trodAll_cons hA
  obtain ⟨_, rfl, _⟩ := trodAll_nil r0
  rfl
 have hc := law_calls (law dss h1) h2
 rw [Array.toArray_toList] at hc
 refine hc.mono fun e W' ⟨he, hb⟩ => ?_
 subst he
 exact ⟨_, rfl, law_post (by kernel_rfl) (by kernel_rfl) rfl hW hs rfl underlying4 hb⟩

theorem closed : joinedFacts prog 9 f9 Rows.fnExactPendingSpec Rows.fnExactPendingRow = true := by
 unfold joinedFacts
 simp only [Bool.and_eq_true, Whole.laidOut, Whole.rowed, Whole.stops, Whole.knobs, Whole.keys, Whole.heard, Whole.enter, Whole.lifts, Whole.make, true_and, and_true]
 repeat' (refine And.intro ?_ ?_)
 all_goals (as_aux_lemma => kernel_rfl)

theorem over : Rows.fnExactPendingRow.holds Tryz.pinned (OpenSpec.ofChange Rows.fnExactPendingSpec) :=
 OpenClaim.holds_of_wide 9 f9 rfl rfl rfl rfl rfl rfl rfl ⟨rfl, rfl, rfl, rfl, rfl⟩ rfl rfl rfl rfl rfl (by kernel_rfl) func9 closed
  (of_decide_eq_true (by kernel_rfl)) (by unfold Func.isWrapper; first | (rw [if_pos (by decide +kernel)]; kernel_rfl) | (rw [if_neg (by decide +kernel)]; exact ⟨rfl, rfl⟩))
  (fun os started H enc _ => lifted os started H enc)

theorem proved : Rows.FnExactPendingSaid :=
 over
end Go.Proofs.YtcanhdhlbghfiaaGreat.fnExactPending
