import Derived.Test.YtkmmgklnoagedaaGreatRows
import Derived.Test.YtkmmgklnoagedaaGreatQATy
import Derived.Test.YtkmmgklnoagedaaGreatQAbsTac
import Derived.Test.YtkmmgklnoagedaaGreatQAbsData
import Derived.Test.YtkmmgklnoagedaaGreatQWhole
import Derived.Test.YtkmmgklnoagedaaGreatQBackW
import Derived.Test.YtkmmgklnoagedaaGreatQABase
import Derived.Test.YtkmmgklnoagedaaGreatQANum
import Derived.Test.YtkmmgklnoagedaaGreatQAFam
import Derived.Test.YtkmmgklnoagedaaGreatQAFam2
import Derived.Test.YtkmmgklnoagedaaGreatQAFam3
import Derived.Test.YtkmmgklnoagedaaGreatQASl2
import Derived.Test.YtkmmgklnoagedaaGreatQAMap
import Derived.Test.YtkmmgklnoagedaaGreatQAHist
import Derived.Test.YtkmmgklnoagedaaGreatQAHeap
import Derived.Test.YtkmmgklnoagedaaGreatQALists
import Derived.Test.YtkmmgklnoagedaaGreatQAStore
import Derived.Test.YtkmmgklnoagedaaGreatQASame
import Derived.Test.YtkmmgklnoagedaaGreatQAValid
import Derived.Test.YtkmmgklnoagedaaGreatQASorts
import Derived.WalkKit
import Derived.ProofKit
import Derived.OpenShut
/- FnExactSerialOk: the program answers as the statement says, at every argument. -/
namespace Go.Proofs.YtkmmgklnoagedaaGreat.Mod
open Go.Proofs.Tryz Go.Abs Go.Proofs.YtkmmgklnoagedaaGreat.Ty Go.ChangeShapes Go.WideShapes Go.ChangeAt Go.RowKit
set_option linter.unusedSimpArgs false
set_option linter.unusedVariables false
set_option maxHeartbeats 8000000
set_option maxRecDepth 100000
theorem mk {l : List KV} (h : mapOk l = true) : l.length <= 100 := by
 have hg : ∀ j, j < l.length -> mapGood l j = true := by simpa [mapOk] using h
 have key : ∀ i, i < l.length -> (i : Int) <= (l.getD i ⟨0, 0⟩).Key := by
  intro i
  induction i with
  | zero =>
   intro hi
   have := hg 0 hi
   simp only [mapGood, within, Bool.and_eq_true, decide_eq_true_eq] at this
   omega
  | succ i ih =>
   intro hi
   have h1 := ih (by omega)
   have := hg (i + 1) hi
   simp only [mapGood, within, Bool.and_eq_true, decide_eq_true_eq, Bool.or_eq_true, beq_iff_eq, Nat.add_sub_cancel] at this
   omega
 refine Classical.byContradiction fun hn => ?_
 have h1 := key 100 (by omega)
 have := hg 100 (by omega)
 simp only [mapGood, within, Bool.and_eq_true, decide_eq_true_eq] at this
 omega
theorem lp (l : List KV) (c : Cmd) : (cmdDo l c).1.length <= max l.length 101 := by
 by_cases h : mapOk l = true
 ·have := mk h
  have := cV l c
  omega
 ·have : (cmdDo l c).1 = l := by
   unfold cmdDo
   simp [h]
  rw [this]; omega
theorem fu : ∀ (r : List Cmd) (l : List KV) (o : List Res), (cmdsGo l o r).1.length <= max l.length 101
 | [], l, o => by simp [cmdsGo]; omega
 | c :: r, l, o => by
  rw [cmdsGo]
  refine Nat.le_trans (fu r _ _) ?_
  have := lp l c
  omega
theorem df (l : List KV) (cs : List Cmd) : (cmdsDo l cs).1.length <= max l.length 101 := fu cs l []
def repStep (l : List TEv) (m : List KV) (s : Int) : List KV × Bool := match l.find? (evIs 1 s), l.find? (evIs 3 s) with
 | some c, some t => ((cmdsDo m c.Cmds).1, decide ((cmdsDo m c.Cmds).2 = t.Res))
 | _, _ => (m, false)
def repGo (l : List TEv) : List KV -> Bool -> List Int -> List KV × Bool
 | m, a, [] => (m, a)
 | m, a, s :: r => repGo l (repStep l m s).1 (a && (repStep l m s).2) r
def replayM (l : List TEv) (n : Int) : List KV × Bool := repGo l [] true ((order l).take n.toNat)
theorem j4 (l : List TEv) (m : List KV) (s : Int) : (repStep l m s).1.length <= max m.length 101 := by
 unfold repStep
 split
 ·exact df _ _
 ·exact Nat.le_max_left _ _
theorem ii (l : List TEv) : ∀ (r : List Int) (m : List KV) (a : Bool), (repGo l m a r).1.length <= max m.length 101
 | [], m, a => by rw [repGo]; exact Nat.le_max_left _ _
 | s :: r, m, a => by
  rw [repGo]
  refine Nat.le_trans (ii l r _ _) ?_
  have := j4 l m s
  omega
theorem gr (l : List TEv) (n : Int) : (replayM l n).1.length <= 101 := by
 have := ii l ((order l).take n.toNat) [] true
 simpa [replayM] using this
theorem gF {k s : Int} {l : List TEv} {i : Nat} (hi : i < l.length) (hp : evIs k s l[i] = true) (h : ∀ j (hj : j < l.length), j < i -> evIs k s l[j] = false) : l.find? (evIs k s) = some l[i] := by
 rw [List.find?_eq_some_iff_getElem]
 refine ⟨hp, i, hi, rfl, fun j hj => ?_⟩
 simp [h j (by omega) hj]
theorem kv {k s : Int} {l : List TEv} (h : ∀ j (hj : j < l.length), evIs k s l[j] = false) : l.find? (evIs k s) = none := by
 rw [List.find?_eq_none]
 intro x hx
 obtain ⟨j, hj, rfl⟩ := List.getElem_of_mem hx
 simp [h j hj]
theorem ex (L : List TEv) : ∀ (r : List TEv) (o : List Int), (∀ x ∈ o, told L x = true) -> ∀ x ∈ orderGo L o r, told L x = true
 | [], o, h => by simpa [orderGo] using h
 | e :: r, o, h => by
  unfold orderGo
  refine ex L r _ ?_
  cases (bif e.Kind != 2 then true else o.any fun x => x == e.Serial) with
  | true => exact h
  | false =>
   cases ht : told L e.Serial with
   | false => exact h
   | true =>
    intro x hx
    rcases List.mem_append.1 hx with hx | hx
    ·exact h x hx
    ·rw [List.mem_singleton.1 hx]; exact ht
theorem gt {L : List TEv} {s : Int} (h : s ∈ order L) : ∃ i, ∃ hi : i < L.length, ixF (evIs 3 s) L = i /\ L.find? (evIs 3 s) = some L[i] := by
 have ht := ex L L [] (by simp) s h
 rcases bi (evIs 3 s) L with ⟨e, hno⟩ | ⟨i, hi, e, hp, hno⟩
 ·rw [eq hno] at ht; cases ht
 ·exact ⟨i, hi, e, gF hi hp hno⟩
theorem eL {l : List TEv} (hz : sizTEvS l <= 1048576) {i : Nat} (hi : i < l.length) : l[i].Cmds.length <= 1048576 /\ l[i].Res.length <= 1048576 := by
 have := aX sizTEv (List.getElem_mem hi)
 unfold sizTEvS at hz
 have hx : sizTEv l[i] = l[i].Cmds.length + l[i].Res.length := rfl
 omega
theorem c137 (l : List TEv) (hz : sizTEvS l <= 1048576) (n : Int) : Ctr prog 137 [.one (.dat (.sl 6 (l.map encTEv))), .one (.dat (.int .i64 n))] [] (.tup [.one (.own 0), .one (.dat (.bool (replayM l n).2))]) [.vec 2 true ((replayM l n).1.map encKV)] := by
 have hmx : maxLen = 9223372036854775807 := rfl
 have hll : l.length <= 1048576 := by unfold sizTEvS at hz; omega
 have hol := cW l
 have hod := fun s hs => gt (L := l) (s := s) hs
 have hco := c138 l (by omega)
 have hM : (if 0 > (if ((order l).length : Int) < n then ((order l).length : Int) else n) then 0 else if ((order l).length : Int) < n then ((order l).length : Int) else n) = ((min (order l).length n.toNat : Nat) : Int) := by
  split <;> split <;> omega
 refine Ctr.bd aa func137 rfl ?_
 refine evl ?_
 refine scs ?_
 refine ck e138 (hco) rfl ?_
 simp (maxSteps := 2000000) only [go_sem, seval, hM, Int.toNat_natCast]
 refine scs ?_
 obtain ⟨cN, hKe⟩ : ∃ cN, cN = min (order l).length n.toNat := ⟨_, rfl⟩
 have hKl : cN <= (order l).length := by omega
 have hTK : (order l).take n.toNat = (order l).take cN := by
  rw [hKe, Nat.min_comm, List.take_eq_take_min]
 rw [<- hKe]
 unfold replayM
 rw [hTK]
 clear hM hTK hKe
 refine ab (fun zn zs => ∃ (i : Nat) (m : List KV) (a : Bool), i <= cN /\ zn = cN - i /\ (repGo l [] true ((order l).take cN) = repGo l m a (((order l).take cN).drop i) /\ m.length <= 101) /\ zs = mkSt [(25, .one (.dat (.int .i64 i))), (24, .one (.dat (.int .i64 (cN)))), (23, .one (.part 1 0 cN)), (6, .one (.own 0)), (7, .one (.dat (.bool a))), (0, .one (.dat (.sl 6 (l.map encTEv)))), (1, .one (.dat (.int .i64 n)))] [.vec 2 true (m.map encKV), .vec 1 true ((order l).map encI)]) (cN) _
  (Ent.wk [0, 1]) ⟨0, [], true, by omega, by omega, ⟨rfl, by decide⟩, rfl⟩ ?_
 rintro zn zs ⟨i, m, a, hi, rfl, hinv, rfl⟩ K hK
 rcases Nat.lt_or_ge i (cN) with hlt | hge
 ·have hdi : decide ((i : Int) < ((cN : Nat) : Int)) = true := decide_eq_true (by omega)
  have hw := ah hlt (show cN <= maxLen by omega)
  have hio : i < (order l).length := by omega
  have hdr : ((order l).take cN).drop i = (order l)[i] :: ((order l).take cN).drop (i + 1) := by
   rw [List.drop_eq_getElem_cons (by rw [List.length_take]; omega), List.getElem_take]
  obtain ⟨hin, hml⟩ := hinv
  obtain ⟨t, htl, hte, htf⟩ := hod (order l)[i] (List.getElem_mem hio)
  rw [hdr, repGo] at hin
  obtain ⟨s, hse⟩ : ∃ s, s = (order l)[i] := ⟨_, rfl⟩
  rw [<- hse] at hin hte htf
  have hg0 : ((order l).map encI).getD i [] = [.int .i64 s] := by rw [getD_map hio, encI, hse]
  rcases bi (evIs 1 s) l with ⟨e1, hno⟩ | ⟨j, hjl, e1, hp, hno⟩
  ·have hst : repStep l m s = (m, false) := by simp [repStep, kv hno]
   rw [hst] at hin
   have hng : decide ((-1 : Int) < 0) = true := rfl
   refine sv61 ?_
   refine scs ?_
   refine ck e230 (c230 l (by omega) 1 s) rfl ?_
   rw [placeOf, e1]
   simp (maxSteps := 2000000) only [go_sem, seval, hdi, hw, hg0, hng]
   refine scs ?_
   (apply hK
    exact ⟨cN - (i + 1), _, by omega, Ent.wk [0, 1], i + 1, m, (a && false), by omega, rfl, ⟨hin, hml⟩, rfl⟩)
  ·have hfj := gF hjl hp hno
   have hst : repStep l m s = ((cmdsDo m l[j].Cmds).1, decide ((cmdsDo m l[j].Cmds).2 = l[t].Res)) := by simp only [repStep, hfj, htf]
   rw [hst] at hin
   have hng : decide ((j : Int) < 0) = false := by simp
   obtain ⟨hlj, _⟩ := eL hz hjl
   obtain ⟨_, hlt3⟩ := eL hz htl
   have hln := gn m l[j].Cmds
   have hln2 := df m l[j].Cmds
   have hcd := c231 m (by omega) l[j].Cmds (by omega)
   have hcq := c232 (cmdsDo m l[j].Cmds).2 l[t].Res (by omega) (by omega)
   have hcp := c230 l (by omega) 3 s
   rw [placeOf, hte] at hcp
   refine sv61 ?_
   refine scs ?_
   refine ck e230 (c230 l (by omega) 1 s) rfl ?_
   rw [placeOf, e1]
   simp (maxSteps := 2000000) only [go_sem, seval, hdi, hw, hg0, hng, getD_map hjl, encTEv, Int.toNat_natCast]
   refine scs ?_
   refine ck e231 (hcd) rfl ?_
   refine sv61 ?_
   refine scs ?_
   refine ck e230 (hcp) rfl ?_
   simp (maxSteps := 2000000) only [go_sem, seval, hdi, hw, hg0, getD_map htl, encTEv, Int.toNat_natCast]
   refine scs ?_
   refine ck e232 (hcq) rfl ?_
   refine sv61 ?_
   refine scs ?_
   (apply hK
    exact ⟨cN - (i + 1), _, by omega, Ent.wk [2, 1], i + 1, (cmdsDo m l[j].Cmds).1, (a && decide ((cmdsDo m l[j].Cmds).2 = l[t].Res)), by omega, rfl, ⟨hin, by omega⟩, rfl⟩)
 ·have hge' : cN = i := by omega
  subst hge'
  have hdi : decide (((cN : Nat) : Int) < ((cN : Nat) : Int)) = false := by simp
  obtain ⟨hin, _⟩ := hinv
  rw [List.drop_eq_nil_of_le (by rw [List.length_take]; omega), repGo] at hin
  refine sv3 ?_
  apply hK
  refine evl ?_
  rw [hin]
  refine Fin.nt results137 [0] ?_ ?_ ?_ <;> try trivial
  all_goals exact entd
theorem c60 (l : List TEv) (hz : sizTEvS l <= 1048576) : Ctr prog 60 [.one (.dat (.sl 6 (l.map encTEv)))] [] (.tup [.one (.own 0), .one (.dat (.bool (replayM l (l.length : Int)).2))]) [.vec 2 true ((replayM l (l.length : Int)).1.map encKV)] := by
 refine Ctr.bd aa func60 rfl ?_
 refine sv18 ?_
 refine scs ?_
 refine ck e137 (c137 l hz (l.length : Int)) rfl ?_
 refine evl ?_
 refine scs ?_
 refine Fin.nt results60 [0] ?_ ?_ ?_ <;> try trivial
 all_goals exact entd
theorem oS (l : List TEv) (hz : sizTEvS l <= 1048576) (m : List KV) (s : Int) (hno : ∀ j (hj : j < l.length), evIs 1 s l[j] = false) : Ctr prog 123 [.one (.own 0), .one (.dat (.sl 6 (l.map encTEv))), .one (.dat (.int .i64 s))] [.vec 2 true (m.map encKV)] (.tup [.one (.own 0), .one (.dat (.bool false))]) [.vec 2 true (m.map encKV)] := by
 have hmx : maxLen = 9223372036854775807 := rfl
 have hll : l.length <= 1048576 := by unfold sizTEvS at hz; omega
 have e1 : placeOf l 1 s = -1 := aH hno
 have hng : decide ((-1 : Int) < 0) = true := rfl
 refine Ctr.bk aa func123 rfl ?_
 refine evl ?_
 refine scs ?_
 refine ck e207 (c207 l (by omega) 1 s) rfl ?_
 rw [e1]
 refine evl ?_
 refine scs ?_
 refine ck e207 (c207 l (by omega) 3 s) rfl ?_
 simp (maxSteps := 2000000) only [go_sem, seval, hng]
 refine scs ?_
 refine Fin.nt results123 [0] ?_ ?_ ?_ <;> try trivial
 all_goals exact entd
theorem oT (l : List TEv) (hz : sizTEvS l <= 1048576) (m : List KV) (hm : m.length <= 101) (s : Int) {j t : Nat} (hj : j < l.length) (ht : t < l.length) (e1 : ixF (evIs 1 s) l = j) (e3 : ixF (evIs 3 s) l = t) : Ctr prog 123 [.one (.own 0), .one (.dat (.sl 6 (l.map encTEv))), .one (.dat (.int .i64 s))] [.vec 2 true (m.map encKV)] (.tup [.one (.own 1), .one (.dat (.bool (decide ((cmdsDo m l[j].Cmds).2 = l[t].Res))))]) [.vec 2 true (m.map encKV), .vec 2 true ((cmdsDo m l[j].Cmds).1.map encKV)] := by
 have hmx : maxLen = 9223372036854775807 := rfl
 have hll : l.length <= 1048576 := by unfold sizTEvS at hz; omega
 obtain ⟨hlj, _⟩ := eL hz hj
 obtain ⟨_, hlt3⟩ := eL hz ht
 have hln := gn m l[j].Cmds
 have hcd := c208 m (by omega) l[j].Cmds (by omega)
 have hcq := c209 (cmdsDo m l[j].Cmds).2 l[t].Res (by omega) (by omega)
 have e1' : placeOf l 1 s = j := e1
 have e3' : placeOf l 3 s = t := e3
 have hng1 : decide ((j : Int) < 0) = false := by simp
 have hng3 : decide ((t : Int) < 0) = false := by simp
 refine Ctr.bk aa func123 rfl ?_
 refine evl ?_
 refine scs ?_
 refine ck e207 (c207 l (by omega) 1 s) rfl ?_
 rw [e1']
 refine evl ?_
 refine scs ?_
 refine ck e207 (c207 l (by omega) 3 s) rfl ?_
 rw [e3']
 simp (maxSteps := 2000000) only [go_sem, seval, hng1, hng3, getD_map hj, encTEv, Int.toNat_natCast]
 refine scs ?_
 refine ck e208 (hcd) rfl ?_
 simp (maxSteps := 2000000) only [go_sem, seval, getD_map ht, encTEv, Int.toNat_natCast]
 refine scs ?_
 refine ck e209 (hcq) rfl ?_
 refine evl ?_
 refine scs ?_
 refine Fin.nt results123 [0, 1] ?_ ?_ ?_ <;> try trivial
 all_goals exact entd
theorem c51 (l : List TEv) (hz : sizTEvS l <= 1048576) : Ctr prog 51 [.one (.dat (.sl 6 (l.map encTEv)))] [] (.tup [.one (.own 0), .one (.dat (.bool (replayM l (l.length : Int)).2))]) [.vec 2 true ((replayM l (l.length : Int)).1.map encKV)] := by
 have hmx : maxLen = 9223372036854775807 := rfl
 have hll : l.length <= 1048576 := by unfold sizTEvS at hz; omega
 have hol := cW l
 have hod := fun s hs => gt (L := l) (s := s) hs
 have hco := c122 l (by omega)
 obtain ⟨cN, hKe⟩ : ∃ cN, cN = min (order l).length (l.length : Int).toNat := ⟨_, rfl⟩
 have hKl : cN <= (order l).length := by omega
 have hTK : (order l).take (l.length : Int).toNat = (order l).take cN := by
  rw [hKe, Nat.min_comm, List.take_eq_take_min]
 unfold replayM
 rw [hTK]
 refine Ctr.bd aa func51 rfl ?_
 refine evl ?_
 refine scs ?_
 refine ck e122 (hco) rfl ?_
 refine evl ?_
 refine scs ?_
 refine ab (fun zn zs => ∃ (i : Nat) (m : List KV) (a : Bool), i <= cN /\ zn = cN - i /\ (repGo l [] true ((order l).take cN) = repGo l m a (((order l).take cN).drop i) /\ m.length <= 101) /\ zs = mkSt [(7, .one (.dat (.int .i64 i))), (4, .one (.own 0)), (6, .one (.own 1)), (5, .one (.dat (.bool a))), (0, .one (.dat (.sl 6 (l.map encTEv))))] [.vec 2 true (m.map encKV), .vec 1 true ((order l).map encI)]) (cN) _
  (Ent.wk [0, 1]) ⟨0, [], true, by omega, by omega, ⟨rfl, by decide⟩, rfl⟩ ?_
 rintro zn zs ⟨i, m, a, hi, rfl, hinv, rfl⟩ K hK
 rcases Nat.lt_or_ge i (cN) with hlt | hge
 ·have hdi : decide ((i : Int) < ((cN : Nat) : Int)) = true := decide_eq_true (by omega)
  have hw := ah hlt (show cN <= maxLen by omega)
  have hio : i < (order l).length := by omega
  have hdr : ((order l).take cN).drop i = (order l)[i] :: ((order l).take cN).drop (i + 1) := by
   rw [List.drop_eq_getElem_cons (by rw [List.length_take]; omega), List.getElem_take]
  obtain ⟨hin, hml⟩ := hinv
  obtain ⟨t, htl, hte, htf⟩ := hod (order l)[i] (List.getElem_mem hio)
  rw [hdr, repGo] at hin
  obtain ⟨s, hse⟩ : ∃ s, s = (order l)[i] := ⟨_, rfl⟩
  rw [<- hse] at hin hte htf
  have hg0 : ((order l).map encI).getD i [] = [.int .i64 s] := by rw [getD_map hio, encI, hse]
  have hd1 : decide ((i : Int) < ((order l).length : Int)) = true := decide_eq_true (by omega)
  have hd2 : decide ((i : Int) < (l.length : Int)) = true := decide_eq_true (by omega)
  rcases bi (evIs 1 s) l with ⟨e1, hno⟩ | ⟨j, hjl, e1, hp, hno⟩
  ·have hst : repStep l m s = (m, false) := by simp [repStep, kv hno]
   rw [hst] at hin
   refine sv62 ?_
   refine scs ?_
   refine cJ [0] e123 (by simp [osOk, St.obj, find]) (oS l hz m s hno) rfl ?_
   refine sv62 ?_
   refine scs ?_
   (apply hK
    exact ⟨cN - (i + 1), _, by omega, Ent.wk [0, 1], i + 1, m, (a && false), by omega, rfl, ⟨hin, hml⟩, rfl⟩)
  ·have hfj := gF hjl hp hno
   have hst : repStep l m s = ((cmdsDo m l[j].Cmds).1, decide ((cmdsDo m l[j].Cmds).2 = l[t].Res)) := by simp only [repStep, hfj, htf]
   rw [hst] at hin
   have hln2 := df m l[j].Cmds
   refine sv62 ?_
   refine scs ?_
   refine cJ [0] e123 (by simp [osOk, St.obj, find]) (oT l hz m hml s hjl htl e1 hte) rfl ?_
   refine sv62 ?_
   refine scs ?_
   (apply hK
    exact ⟨cN - (i + 1), _, by omega, Ent.wk [2, 1], i + 1, (cmdsDo m l[j].Cmds).1, (a && decide ((cmdsDo m l[j].Cmds).2 = l[t].Res)), by omega, rfl, ⟨hin, by omega⟩, rfl⟩)
 ·have hge' : cN = i := by omega
  subst hge'
  have hdi : decide (((cN : Nat) : Int) < ((cN : Nat) : Int)) = false := by simp
  obtain ⟨hin, _⟩ := hinv
  rw [List.drop_eq_nil_of_le (by rw [List.length_take]; omega), repGo] at hin
  have hde : decide ((cN : Int) < ((order l).length : Int)) = false := decide_eq_false (by omega)
  simp (maxSteps := 2000000) only [go_sem, seval, hde]
  apply hK
  refine evl ?_
  rw [hin]
  refine Fin.nt results51 [0] ?_ ?_ ?_ <;> try trivial
  all_goals exact entd
def writableM (m : Mem) (h : Int) : Int := if isLiveM m h = false then 4 else if hasNodeM m.Heap (h % 32) = false then 2 else 0
def nodeOkM (x : Node) : Bool := nodeOk x.Key x.Val x.Next
def nodeOf (m : Mem) (h : Int) : Node := nodeInM m.Heap (h % 32)
def stepOk (m : Mem) (h : Int) (o : List Int) : Bool := isLiveM m h && hasNodeM m.Heap (h % 32) && !(o.any fun y => y == h) && nodeOkM (nodeOf m h)
def chainGo (m : Mem) : Nat -> Int -> List Int -> Option (List Int)
 | f, h, o => if h = 0 then some o else match f with
  | 0 => none
  | f + 1 => if stepOk m h o = true then chainGo m f (nodeOf m h).Next (o ++ [h]) else none
def chainR (m : Mem) (head : Int) : List Int × Bool := if memOk m = true then (match chainGo m 25 head [] with
 | some l => (l, true)
 | none => ([], false)) else ([], false)
theorem chainGo_zero (m : Mem) (f : Nat) (o : List Int) : chainGo m f 0 o = some o := by
 unfold chainGo; simp
theorem bv {m : Mem} {f : Nat} {h : Int} {o : List Int} (h0 : h ≠ 0) (hb : stepOk m h o = false) : chainGo m (f + 1) h o = none := by
 rw [chainGo]; simp [h0, hb]
theorem chainGo_step {m : Mem} {f : Nat} {h : Int} {o : List Int} (h0 : h ≠ 0) (hb : stepOk m h o = true) : chainGo m (f + 1) h o = chainGo m f (nodeOf m h).Next (o ++ [h]) := by
 rw [chainGo]; simp [h0, hb]
theorem fH : ∀ (n : Nat) (l : List Nat), l.Nodup -> (∀ x ∈ l, x < n) -> l.length <= n
 | 0, l, _, h => by
  cases l with
  | nil => exact Nat.le_refl _
  | cons x l => exact absurd (h x (by simp)) (Nat.not_lt_zero x)
 | n + 1, l, hn, h => by
  by_cases hm : n ∈ l
  ·have h1 := fH n (l.erase n) (hn.erase n) (fun x hx => by
    have h2 := (hn.mem_erase_iff).1 hx
    have := h x h2.2
    omega)
   rw [List.length_erase_of_mem hm] at h1
   omega
  ·have := fH n l hn (fun x hx => by
    have h1 := h x hx
    have : x ≠ n := fun e => hm (e ▸ hx)
    omega)
   omega
theorem oU {m : Mem} {h : Int} {o : List Int} (hq : (bif (writableM m h != 0) then true else o.any fun y => y == h) = true) : stepOk m h o = false := by
 simp only [stepOk]
 cases h1 : isLiveM m h with
 | false => rfl
 | true =>
  cases h2 : hasNodeM m.Heap (h % 32) with
  | false => rfl
  | true =>
   have : writableM m h = 0 := by simp [writableM, h1, h2]
   rw [this] at hq
   have hq : (o.any fun y => y == h) = true := hq
   rw [hq]; rfl
theorem oV {m : Mem} {h : Int} {o : List Int} (hq : (bif (writableM m h != 0) then true else o.any fun y => y == h) = false) : isLiveM m h = true /\ hasNodeM m.Heap (h % 32) = true /\ stepOk m h o = nodeOkM (nodeOf m h) := by
 cases h1 : isLiveM m h with
 | false =>
  have : writableM m h = 4 := by simp [writableM, h1]
  rw [this] at hq; cases hq
 | true =>
  cases h2 : hasNodeM m.Heap (h % 32) with
  | false =>
   have : writableM m h = 2 := by simp [writableM, h1, h2]
   rw [this] at hq; cases hq
  | true =>
   have : writableM m h = 0 := by simp [writableM, h1, h2]
   rw [this] at hq
   have hq : (o.any fun y => y == h) = false := hq
   exact ⟨rfl, rfl, by simp only [stepOk, h1, h2, hq]; rfl⟩
def Good (m : Mem) (o : List Int) : Prop := o.Nodup /\ ∀ x ∈ o, isLiveM m x = true /\ hasNodeM m.Heap (x % 32) = true /\ nodeOkM (nodeOf m x) = true
theorem bN {m : Mem} {h : Int} (hl : isLiveM m h = true) : handleOk h = true /\ stateM m (h % 32) = 3 /\ genInM m.Heap (h % 32) = h / 32 := by
 simp only [isLiveM, Bool.and_eq_true, beq_iff_eq] at hl
 exact ⟨hl.1.1, hl.1.2, hl.2⟩
theorem fI {m : Mem} {o : List Int} (h : Good m o) : o.length <= 24 := by
 have := fH 24 (o.map fun x => (x % 32).toNat) (by
  rw [List.Nodup, List.pairwise_map]
  refine List.Pairwise.imp_of_mem (fun {a b} ha hb hne e => hne ?_) h.1
  obtain ⟨a1, _, a3⟩ := bN (h.2 a ha).1
  obtain ⟨b1, _, b3⟩ := bN (h.2 b hb).1
  have e' : a % 32 = b % 32 := by omega
  rw [e', b3] at a3
  omega) (fun x hx => by
  obtain ⟨y, hy, rfl⟩ := List.mem_map.1 hx
  have := (bA y).1 (bN (h.2 y hy).1).1
  omega)
 simpa using this
theorem lq {m : Mem} {h : Int} {o : List Int} (hs : stepOk m h o = true) : isLiveM m h = true /\ hasNodeM m.Heap (h % 32) = true /\ h ∉ o /\ nodeOkM (nodeOf m h) = true := by
 simp only [stepOk, Bool.and_eq_true, Bool.not_eq_true', List.any_eq_false, beq_iff_eq] at hs
 exact ⟨hs.1.1.1, hs.1.1.2, fun hm => hs.1.2 h hm rfl, hs.2⟩
theorem ey {m : Mem} {h : Int} {o : List Int} (hg : Good m o) (hs : stepOk m h o = true) : Good m (o ++ [h]) := by
 obtain ⟨h1, h2, h3, h4⟩ := lq hs
 refine ⟨List.nodup_append.2 ⟨hg.1, by simp, fun a ha b hb e => h3 (by rw [List.mem_singleton.1 hb] at e; exact e ▸ ha)⟩, fun x hx => ?_⟩
 rcases List.mem_append.1 hx with hx | hx
 ·exact hg.2 x hx
 ·rw [List.mem_singleton.1 hx]; exact ⟨h1, h2, h4⟩
theorem eC {m : Mem} : ∀ {f : Nat} {h : Int} {o l : List Int}, Good m o -> chainGo m f h o = some l -> Good m l
 | 0, h, o, l, hg, hc => by
  rw [chainGo] at hc
  split at hc
  ·cases hc; exact hg
  ·cases hc
 | f + 1, h, o, l, hg, hc => by
  by_cases h0 : h = 0
  ·subst h0; rw [chainGo_zero] at hc; cases hc; exact hg
  ·cases hs : stepOk m h o with
   | true => rw [chainGo_step h0 hs] at hc; exact eC (ey hg hs) hc
   | false => rw [bv h0 hs] at hc; cases hc
theorem cx (m : Mem) (head : Int) : (chainR m head).1 = [] \/ (memOk m = true /\ Good m (chainR m head).1) := by
 unfold chainR
 split
 ·rename_i hm
  split
  ·rename_i l hl
   exact .inr ⟨hm, eC ⟨List.nodup_nil, by simp⟩ hl⟩
  ·exact .inl rfl
 ·exact .inl rfl
theorem c262 (m : Mem) (hz : sizMem m <= 1048576) (hs : shapedM m.Heap = true) (h : Int) : Ctr prog 262 [.agg ((encMem m).map .dat), .one (.dat (.int .i64 h))] [] (.one (.dat (.int .i64 (writableM m h)))) [] := by
 have hcl := c244 m hz hs h
 have hch := fun s => c324 m.Heap hs s
 simp only [encHeap, List.map_cons, List.map_nil] at hch
 simp only [encMem, List.map_cons, List.map_nil] at hcl ⊢
 cases hl : isLiveM m h with
 | false =>
  have hr : writableM m h = 4 := by simp [writableM, hl]
  rw [hr]
  refine Ctr.bd aa func262 rfl ?_
  refine evl ?_
  refine scs ?_
  refine ck e244 (hcl) rfl ?_
  simp (maxSteps := 2000000) only [go_sem, seval, hl]
  refine scs ?_
  refine Fin.nt results262 [] ?_ ?_ ?_ <;> try trivial
 | true =>
  obtain ⟨ht, hd, hw⟩ := cv (bN hl).1
  cases hn : hasNodeM m.Heap (h % 32) with
  | false =>
   have hr : writableM m h = 2 := by simp [writableM, hl, hn]
   rw [hr]
   refine Ctr.bd aa func262 rfl ?_
   refine evl ?_
   refine scs ?_
   refine ck e244 (hcl) rfl ?_
   refine sv51 ?_
   refine scs ?_
   refine ck e324 (hch (h % 32)) rfl ?_
   refine sv39 ?_
   refine scs ?_
   refine Fin.nt results262 [] ?_ ?_ ?_ <;> try trivial
  | true =>
   have hr : writableM m h = 0 := by simp [writableM, hl, hn]
   rw [hr]
   refine Ctr.bd aa func262 rfl ?_
   refine evl ?_
   refine scs ?_
   refine ck e244 (hcl) rfl ?_
   refine sv51 ?_
   refine scs ?_
   refine ck e324 (hch (h % 32)) rfl ?_
   refine sv39 ?_
   refine scs ?_
   refine Fin.nt results262 [] ?_ ?_ ?_ <;> try trivial
theorem c158 (m : Mem) (hz : sizMem m <= 1048576) (head : Int) : Ctr prog 158 [.agg ((encMem m).map .dat), .one (.dat (.int .i64 head))] [] (.tup [.one (.own 0), .one (.dat (.bool (chainR m head).2))]) [.vec 1 true ((chainR m head).1.map encI)] := by
 have hmx : maxLen = 9223372036854775807 := rfl
 have hcm := c236 m hz
 have hcw := fun hs h => c262 m hz hs h
 have hcn := fun hs s hn => c70 m.Heap hs s hn
 simp only [encHeap, encNode, List.map_cons, List.map_nil] at hcn
 simp only [encMem, List.map_cons, List.map_nil] at hcm hcw ⊢
 cases hm : memOk m with
 | false =>
  have hr : chainR m head = ([], false) := by simp [chainR, hm]
  rw [hr]
  refine Ctr.bd aa func158 rfl ?_
  refine evl ?_
  refine scs ?_
  refine ck e236 (hcm) rfl ?_
  refine sv14 ?_
  refine scs ?_
  refine Fin.nt results158 [1] ?_ ?_ ?_ <;> try trivial
  all_goals exact entd
 | true =>
  have hs := (bW hm).2.2
  have hr : chainR m head = (match chainGo m 25 head [] with
   | some l => (l, true)
   | none => ([], false)) := by simp [chainR, hm]
  refine Ctr.bd aa func158 rfl ?_
  refine evl ?_
  refine scs ?_
  refine ck e236 (hcm) rfl ?_
  refine sv14 ?_
  refine scs ?_
  refine ab (fun zn zs => ∃ (o : List Int) (h : Int), zn = 25 - o.length /\ (Good m o /\ chainGo m 25 head [] = chainGo m (25 - o.length) h o) /\ zs = mkSt [(2, .one (.ptr (.own 0 0 0))), (6, .one (.own 1)), (7, .one (.dat (.int .i64 h)))] [.box [.dat (.sl 1 (m.Heap.Bytes.map encI)), .dat (.sl 1 (m.Heap.Class.map encI)), .dat (.sl 1 (m.Lists.Global.map encSList)), .dat (.sl 1 (m.Lists.Own.map encSList))], .vec 1 true (o.map encI)]) _ _
   (Ent.wk [0, 1]) ⟨[], head, rfl, ⟨⟨List.nodup_nil, by simp⟩, rfl⟩, rfl⟩ ?_
  rintro zn zs ⟨o, h, rfl, hinv, rfl⟩ K hK
  obtain ⟨hg, hch⟩ := hinv
  have hle := fI hg
  obtain ⟨f, hf⟩ : ∃ f, 25 - o.length = f + 1 := ⟨24 - o.length, by omega⟩
  rw [hf] at hch
  cases h0 : decide (h = 0) with
  | true =>
   have h0' := of_decide_eq_true h0
   subst h0'
   rw [chainGo_zero] at hch
   rw [hch] at hr
   have hb : ((0 : Int) != 0) = false := rfl
   refine sv52 ?_
   apply hK
   refine evl ?_
   rw [hr]
   refine Fin.nt results158 [1] ?_ ?_ ?_ <;> try trivial
   all_goals exact entd
  | false =>
   have h0' := of_decide_eq_false h0
   have hb : (h != 0) = true := by simpa using h0'
   have hcc := c233 o (by omega) h
   refine sv52 ?_
   refine scs ?_
   refine ck e262 (hcw hs h) rfl ?_
   refine evl ?_
   refine scs ?_
   refine ck e233 (hcc) rfl ?_
   refine evl ?_
   refine scs ?_
   constructor <;> intro hq
   ·rw [bv h0' (oU hq)] at hch
    rw [hch] at hr
    apply hK
    refine evl ?_
    rw [hr]
    refine Fin.ent (Ent.emp (t := 4) (sz := 1) rfl) ?_
    refine evl ?_
    refine Fin.nt results158 [2] ?_ ?_ ?_ <;> try trivial
    all_goals exact entd
   obtain ⟨hlv, hnd, hso⟩ := oV hq
   obtain ⟨ht, _, _⟩ := cv (bN hlv).1
   refine scs ?_
   simp (maxSteps := 2000000) only [go_sem, seval, ht]
   refine scs ?_
   refine ck e70 (hcn hs (h % 32) hnd) rfl ?_
   refine evl ?_
   refine scs ?_
   refine ck e263 (c263 _ _ _) rfl ?_
   refine evl ?_
   refine scs ?_
   constructor <;> intro hq2
   ·have hb2 : stepOk m h o = false := by rw [hso]; exact bw hq2
    rw [bv h0' hb2] at hch
    rw [hch] at hr
    apply hK
    refine evl ?_
    rw [hr]
    refine Fin.ent (Ent.emp (t := 4) (sz := 1) rfl) ?_
    refine evl ?_
    refine Fin.nt results158 [3] ?_ ?_ ?_ <;> try trivial
    all_goals exact entd
   ·have hb2 : stepOk m h o = true := by rw [hso]; exact bx hq2
    rw [chainGo_step h0' hb2] at hch
    have hg2 := ey hg hb2
    have hch2 : chainGo m 25 head [] = chainGo m (25 - (o ++ [h]).length) (nodeInM m.Heap (h % 32)).Next (o ++ [h]) := by
     rw [hch, List.length_append]; congr 1; simp; omega
    refine scs ?_
    have hdec : 25 - (o ++ [h]).length < 25 - o.length := by rw [List.length_append, List.length_singleton]; omega
    (apply hK
     exact ⟨_, _, by exact hdec, Ent.wk [0, 4], (o ++ [h]), (nodeInM m.Heap (h % 32)).Next, rfl, ⟨hg2, hch2⟩, rfl⟩)
theorem spot_live {m : Mem} {h : Int} (hl : isLiveM m h = true) : spotM m h = if hasNodeM m.Heap (h % 32) = true then (startM m.Heap (h % 32), 0) else (0, 2) := by
 obtain ⟨h1, h2, _⟩ := bN hl
 have := bX h2
 rw [spotM, if_pos ⟨h1, this⟩]
theorem c65 (m : Mem) (hz : sizMem m <= 1048576) (hm : memOk m = true) (head : Int) : Ctr prog 65 [.agg ((encMem m).map .dat), .one (.dat (.int .i64 head))] [] (.tup [.one (.own 0), .one (.dat (.bool (chainR m head).2))]) [.vec 1 true ((chainR m head).1.map encI)] := by
 have hmx : maxLen = 9223372036854775807 := rfl
 have hs := (bW hm).2.2
 have hcv := fun h => c153 m hz hs h
 have hcp := fun h => c155 m hs h
 have hcl := fun A h0 h1 => c157 m hs A h0 h1
 simp only [encNode, List.map_cons, List.map_nil] at hcl
 simp only [encMem, List.map_cons, List.map_nil] at hcv hcp hcl ⊢
 have hr : chainR m head = (match chainGo m 25 head [] with
  | some l => (l, true)
  | none => ([], false)) := by simp [chainR, hm]
 refine Ctr.bd aa func65 rfl ?_
 refine evl ?_
 refine scs ?_
 refine ab (fun zn zs => ∃ (o : List Int) (h : Int), zn = 25 - o.length /\ (Good m o /\ chainGo m 25 head [] = chainGo m (25 - o.length) h o) /\ zs = mkSt [(2, .one (.ptr (.own 0 0 0))), (6, .one (.own 1)), (7, .one (.dat (.int .i64 h)))] [.box [.dat (.sl 1 (m.Heap.Bytes.map encI)), .dat (.sl 1 (m.Heap.Class.map encI)), .dat (.sl 1 (m.Lists.Global.map encSList)), .dat (.sl 1 (m.Lists.Own.map encSList))], .vec 1 true (o.map encI)]) _ _
  (Ent.wk [0, 1]) ⟨[], head, rfl, ⟨⟨List.nodup_nil, by simp⟩, rfl⟩, rfl⟩ ?_
 rintro zn zs ⟨o, h, rfl, hinv, rfl⟩ K hK
 obtain ⟨hg, hch⟩ := hinv
 have hle := fI hg
 obtain ⟨f, hf⟩ : ∃ f, 25 - o.length = f + 1 := ⟨24 - o.length, by omega⟩
 rw [hf] at hch
 cases h0 : decide (h = 0) with
 | true =>
  have h0' := of_decide_eq_true h0
  subst h0'
  rw [chainGo_zero] at hch
  rw [hch] at hr
  have hb : ((0 : Int) != 0) = false := rfl
  refine sv52 ?_
  apply hK
  refine evl ?_
  rw [hr]
  refine Fin.nt results65 [1] ?_ ?_ ?_ <;> try trivial
  all_goals exact entd
 | false =>
  have h0' := of_decide_eq_false h0
  have hb : (h != 0) = true := by simpa using h0'
  have hcc := c154 o (by omega) h
  refine sv52 ?_
  refine scs ?_
  refine ck e153 (hcv h) rfl ?_
  refine evl ?_
  refine scs ?_
  refine ck e154 (hcc) rfl ?_
  refine evl ?_
  refine scs ?_
  constructor <;> intro hq
  ·have hb2 : stepOk m h o = false := by
    simp only [stepOk]
    cases h1 : isLiveM m h with
    | false => rfl
    | true =>
     have hq : (o.any fun y => y == h) = true := by simpa [h1] using hq
     rw [hq]; simp
   rw [bv h0' hb2] at hch
   rw [hch] at hr
   refine scs ?_
   apply hK
   refine evl ?_
   rw [hr]
   refine Fin.nt results65 [2] ?_ ?_ ?_ <;> try trivial
   all_goals exact entd
  have hlv : isLiveM m h = true := by
   cases h1 : isLiveM m h with
   | true => rfl
   | false => rw [h1] at hq; cases hq
  have hni : (o.any fun y => y == h) = false := by rw [hlv] at hq; exact hq
  have hsp := spot_live hlv
  cases hnd : hasNodeM m.Heap (h % 32) with
  | false =>
   have hsp2 : spotM m h = (0, 2) := by rw [hsp, hnd]; rfl
   have hb2 : stepOk m h o = false := by simp only [stepOk, hnd, Bool.and_false, Bool.false_and]
   have hcp' := hcp h
   rw [hsp2] at hcp'
   rw [bv h0' hb2] at hch
   rw [hch] at hr
   refine scs ?_
   refine ck e155 (hcp') rfl ?_
   refine evl ?_
   refine scs ?_
   have hb0 : ((2 : Int) != 0) = true := rfl
   refine sv53 ?_
   refine scs ?_
   first | refine aM (.agg [.dat (.int .i64 0), .dat (.int .i64 0), .dat (.int .i64 0)]) ?_ | refine aN (.agg [.dat (.int .i64 0), .dat (.int .i64 0), .dat (.int .i64 0)]) ?_
   refine sv53 ?_
   refine scs ?_
   first | refine aM (.one (.dat (.bool false))) ?_ | refine aN (.one (.dat (.bool false))) ?_
   refine sv53 ?_
   refine scs ?_
   apply hK
   refine evl ?_
   rw [hr]
   refine Fin.nt results65 [2] ?_ ?_ ?_ <;> try trivial
   all_goals exact entd
  | true =>
   have hsp2 : spotM m h = (startM m.Heap (h % 32), 0) := by rw [hsp, hnd]; rfl
   have hb2 : stepOk m h o = nodeOkM (nodeOf m h) := by simp only [stepOk, hnd, hlv, hni]; rfl
   have hcp' := hcp h
   rw [hsp2] at hcp'
   obtain ⟨_, hA0, hA1, _⟩ := dd hs hnd
   have hb0 : ((0 : Int) != 0) = false := rfl
   have hcl' := hcl (startM m.Heap (h % 32)) hA0 hA1
   rw [show loadNode m.Heap.Bytes (startM m.Heap (h % 32)).toNat = nodeOf m h from rfl] at hcl'
   refine scs ?_
   refine ck e155 (hcp') rfl ?_
   refine sv53 ?_
   refine scs ?_
   refine ck e157 (hcl') rfl ?_
   refine sv53 ?_
   refine scs ?_
   refine ck e156 (c156 _ _ _) rfl ?_
   refine sv53 ?_
   constructor <;> intro hq2
   ·have hb3 : stepOk m h o = false := by rw [hb2]; exact bw hq2
    rw [bv h0' hb3] at hch
    rw [hch] at hr
    refine scs ?_
    apply hK
    refine evl ?_
    rw [hr]
    refine Fin.nt results65 [2] ?_ ?_ ?_ <;> try trivial
    all_goals exact entd
   ·have hb3 : stepOk m h o = true := by rw [hb2]; exact bx hq2
    refine scs ?_
    refine ck e157 (hcl') rfl ?_
    refine evl ?_
    refine scs ?_
    rw [chainGo_step h0' hb3] at hch
    have hg2 := ey hg hb3
    have hch2 : chainGo m 25 head [] = chainGo m (25 - (o ++ [h]).length) (nodeOf m h).Next (o ++ [h]) := by
     rw [hch, List.length_append]; congr 1; simp; omega
    have hdec : 25 - (o ++ [h]).length < 25 - o.length := by rw [List.length_append, List.length_singleton]; omega
    (apply hK
     exact ⟨_, _, by exact hdec, Ent.wk [0, 3], (o ++ [h]), (nodeOf m h).Next, rfl, ⟨hg2, hch2⟩, rfl⟩)
theorem c66 (m : Mem) (hs : shapedM m.Heap = true) (h : Int) (hl : isLiveM m h = true) (hn : hasNodeM m.Heap (h % 32) = true) : Ctr prog 66 [.agg ((encMem m).map .dat), .one (.dat (.int .i64 h))] [] (.agg ((encNode (nodeOf m h)).map .dat)) [] := by
 have hcp := c155 m hs h
 have hcl := fun A h0 h1 => c157 m hs A h0 h1
 have hsp2 : spotM m h = (startM m.Heap (h % 32), 0) := by rw [spot_live hl, hn]; rfl
 obtain ⟨_, hA0, hA1, _⟩ := dd hs hn
 have hb0 : ((0 : Int) != 0) = false := rfl
 rw [hsp2] at hcp
 have hcl' := hcl (startM m.Heap (h % 32)) hA0 hA1
 rw [show loadNode m.Heap.Bytes (startM m.Heap (h % 32)).toNat = nodeOf m h from rfl] at hcl'
 simp only [encMem, encNode, List.map_cons, List.map_nil] at hcp hcl' ⊢
 refine Ctr.bd aa func66 rfl ?_
 refine evl ?_
 refine scs ?_
 refine ck e155 (hcp) rfl ?_
 refine sv53 ?_
 refine scs ?_
 refine ck e157 (hcl') rfl ?_
 refine evl ?_
 refine scs ?_
 refine Fin.nt results66 [] ?_ ?_ ?_ <;> try trivial
def chGo (m : Mem) : List Bkt -> Option (List (List Int))
 | [] => some []
 | b :: B => if (chainR m b.Head).2 = true then (chGo m B).map ((chainR m b.Head).1 :: ·) else none
def chainsM (t : Table) : List (List Int) × Bool := bif tableOk t then (match chGo t.Base.Mem t.Bkts with
 | some l => (l, true)
 | none => ([], false)) else ([], false)
theorem fJ (m : Mem) (h : Int) : (chainR m h).1.length <= 24 := by
 rcases cx m h with e | ⟨_, hg⟩
 ·rw [e]; decide
 ·exact fI hg
theorem js (m : Mem) : ∀ (B : List Bkt) (l : List (List Int)), chGo m B = some l -> l.length = B.length /\ (∀ c ∈ l, c.length <= 24)
 | [], l, h => by cases h; exact ⟨rfl, by simp⟩
 | b :: B, l, h => by
  rw [chGo] at h
  split at h
  ·obtain ⟨l', h1, rfl⟩ := Option.map_eq_some_iff.1 h
   obtain ⟨h2, h3⟩ := js m B l' h1
   refine ⟨by simp [h2], fun c hc => ?_⟩
   rcases List.mem_cons.1 hc with rfl | hc
   ·exact fJ m _
   ·exact h3 c hc
  ·cases h
theorem gu : ∀ (l : List (List Int)), (∀ c ∈ l, c.length <= 24) -> sumIL l <= 24 * l.length
 | [], _ => by simp [sumIL]
 | c :: l, h => by
  have h1 := gu l fun x hx => h x (List.mem_cons_of_mem _ hx)
  have h2 := h c (by simp)
  rw [cw, List.length_cons]; omega
theorem fv (t : Table) : (chainsM t).1.length <= 2 /\ (∀ c ∈ (chainsM t).1, c.length <= 24) /\ sumIL (chainsM t).1 <= 48 := by
 unfold chainsM
 cases h : tableOk t with
 | false => exact ⟨by simp, fun c hc => by simp at hc, by simp [sumIL]⟩
 | true =>
  simp only [cond_true]
  split
  ·rename_i l hl
   obtain ⟨h1, h2⟩ := js _ _ _ hl
   have h3 := gu l h2
   have := (bL h).2.1
   exact ⟨by simp only; omega, h2, by simp only; omega⟩
  ·exact ⟨by simp, fun c hc => by simp at hc, by simp [sumIL]⟩
theorem iw {m : Mem} {h x : Int} (hx : x ∈ (chainR m h).1) : handleOk x = true := by
 rcases cx m h with e | ⟨_, hg⟩
 ·rw [e] at hx; cases hx
 ·exact (bN (hg.2 x hx).1).1
theorem eD (m : Mem) : ∀ (B : List Bkt) (l : List (List Int)), chGo m B = some l -> ∀ x ∈ l.flatten, handleOk x = true
 | [], l, h, x, hx => by cases h; cases hx
 | b :: B, l, h, x, hx => by
  rw [chGo] at h
  split at h
  ·obtain ⟨l', h1, rfl⟩ := Option.map_eq_some_iff.1 h
   rw [List.flatten_cons, List.mem_append] at hx
   rcases hx with hx | hx
   ·exact iw hx
   ·exact eD m B l' h1 x hx
  ·cases h
theorem gG (t : Table) : ∀ x ∈ (chainsM t).1.flatten, handleOk x = true := by
 unfold chainsM
 cases h : tableOk t with
 | false => intro x hx; cases hx
 | true =>
  simp only [cond_true]
  split
  ·rename_i l hl; exact eD _ _ _ hl
  ·intro x hx; cases hx
theorem c68 (t : Table) (hz : sizTable t <= 1048576) : Ctr prog 68 [.agg ((encTable t).map .dat)] [] (.tup [.one (.own 0), .one (.dat (.bool (chainsM t).2))]) [.vec 1 true ((chainsM t).1.map encIL)] := by
 have hmx : maxLen = 9223372036854775807 := rfl
 have hct := c63 t hz
 obtain ⟨z1, _⟩ := cZ hz
 obtain ⟨zm, _⟩ := dE z1
 have hcc := fun h => c158 t.Base.Mem zm h
 cases h0 : tableOk t with
 | false =>
  rw [h0] at hct
  have hcm : chainsM t = ([], false) := by rw [chainsM, h0]; rfl
  rw [hcm]
  simp only [encTable, List.map_cons, List.map_nil] at hct ⊢
  refine Ctr.bd aa func68 rfl ?_
  refine evl ?_
  refine scs ?_
  refine ck e63 (hct) rfl ?_
  refine evl ?_
  refine Fin.nt results68 [1] ?_ ?_ ?_ <;> try trivial
  all_goals exact entd
 | true =>
 rw [h0] at hct
 obtain ⟨_, hb2, _⟩ := bL h0
 have hcm : chainsM t = (match chGo t.Base.Mem t.Bkts with
  | some l => (l, true)
  | none => ([], false)) := by rw [chainsM, h0]; rfl
 simp only [encTable, encMem, List.map_cons, List.map_nil] at hct hcc ⊢
 refine Ctr.bd aa func68 rfl ?_
 refine evl ?_
 refine scs ?_
 refine ck e63 (hct) rfl ?_
 refine sv18 ?_
 refine scs ?_
 refine ab (fun zn zs => ∃ (i : Nat) (o : List (List Int)), i <= t.Bkts.length /\ zn = t.Bkts.length - i /\ (chGo t.Base.Mem t.Bkts = (chGo t.Base.Mem (t.Bkts.drop i)).map (o ++ ·) /\ o.length = i) /\ zs = mkSt [(17, .one (.dat (.int .i64 i))), (16, .one (.dat (.int .i64 (t.Bkts.length)))), (15, .one (.dat (.sl 3 (t.Bkts.map encBkt)))), (1, .one (.ptr (.own 0 0 0))), (4, .one (.own 1))] [.box [.dat (.sl 1 (t.Base.Mem.Heap.Bytes.map encI)), .dat (.sl 1 (t.Base.Mem.Heap.Class.map encI)), .dat (.sl 1 (t.Base.Mem.Lists.Global.map encSList)), .dat (.sl 1 (t.Base.Mem.Lists.Own.map encSList)), .dat (.int .i64 t.Base.Clock.Epoch), .dat (.sl 4 (t.Base.Clock.Pins.map encPin)), .dat (.sl 1 (t.Base.Limbo.map encLList)), .dat (.sl 1 (t.Base.Haz.map encI)), .dat (.sl 3 (t.Bkts.map encBkt)), .dat (.sl 32 (t.Jobs.map encTJob)), .dat (.sl 1 (t.Todo.map encTQueue)), .dat (.sl 6 (t.Log.map encTEv)), .dat (.int .i64 t.Serial)], .vec 1 true (o.map encIL)]) (t.Bkts.length) _
  (Ent.wk [0, 1]) ⟨0, [], by omega, by omega, ⟨by simp, rfl⟩, rfl⟩ ?_
 rintro zn zs ⟨i, o, hi, rfl, hinv, rfl⟩ K hK
 rcases Nat.lt_or_ge i (t.Bkts.length) with hlt | hge
 ·have hdi : decide ((i : Int) < ((t.Bkts.length : Nat) : Int)) = true := decide_eq_true (by omega)
  have hw := ah hlt (show t.Bkts.length <= maxLen by omega)
  obtain ⟨hv1, hv2⟩ := hinv
  obtain ⟨b, hbi⟩ : ∃ b, t.Bkts[i] = b := ⟨_, rfl⟩
  rw [List.drop_eq_getElem_cons hlt, hbi, chGo] at hv1
  have hlc := fJ t.Base.Mem b.Head
  refine sv54 ?_
  refine scs ?_
  refine ck e158 (hcc b.Head) rfl ?_
  refine sv54 ?_
  refine scs ?_
  constructor <;> intro hq
  ·rw [if_neg (by rw [bw hq]; simp)] at hv1
   have hcm2 : chainsM t = ([], false) := by rw [hcm, hv1]; rfl
   apply hK
   rw [hcm2]
   refine sv54 ?_
   refine Fin.ent (Ent.emp (t := 2) (sz := 1) rfl) ?_
   refine sv54 ?_
   refine Fin.nt results68 [4] ?_ ?_ ?_ <;> try trivial
   all_goals exact entd
  ·rw [if_pos (bx hq)] at hv1
   refine scs ?_
   (apply hK
    exact ⟨t.Bkts.length - (i + 1), _, by omega, Ent.wk [0, 5], i + 1, (o ++ [(chainR t.Base.Mem b.Head).1]), by omega, rfl, ⟨by rw [hv1, Option.map_map]; congr 1; funext x; simp, by simp [hv2]⟩, rfl⟩)
 ·have hge' : t.Bkts.length = i := by omega
  subst hge'
  have hdi : decide (((t.Bkts.length : Nat) : Int) < ((t.Bkts.length : Nat) : Int)) = false := by simp
  obtain ⟨hv1, hv2⟩ := hinv
  have hoe : chGo t.Base.Mem t.Bkts = some o := by rw [hv1, List.drop_length]; simp [chGo]
  have hcm2 : chainsM t = (o, true) := by rw [hcm, hoe]
  refine sv3 ?_
  apply hK
  rw [hcm2]
  refine evl ?_
  refine Fin.nt results68 [1] ?_ ?_ ?_ <;> try trivial
  all_goals exact entd
def putBack (m : Mem) : List KV -> List Int -> List KV
 | o, [] => o
 | o, h :: l => putBack m (mapPut o (nodeOf m h).Key (nodeOf m h).Val) l
def tmapGo (m : Mem) : List KV -> List (List Int) -> List KV
 | o, [] => o
 | o, l :: L => tmapGo m (putBack m o l.reverse) L
def tmapM (t : Table) : List KV := tmapGo t.Base.Mem [] (chainsM t).1
theorem dg (m : Mem) : ∀ (l : List Int) (o : List KV), (putBack m o l).length <= o.length + l.length
 | [], o => Nat.le_refl _
 | h :: l, o => by
  have h1 := dg m l (mapPut o (nodeOf m h).Key (nodeOf m h).Val)
  have h2 := bV o (nodeOf m h).Key (nodeOf m h).Val
  rw [putBack, List.length_cons]; omega
theorem dF (m : Mem) : ∀ (L : List (List Int)) (o : List KV), (tmapGo m o L).length <= o.length + sumIL L
 | [], o => Nat.le_add_right ..
 | l :: L, o => by
  have h1 := dF m L (putBack m o l.reverse)
  have h2 := dg m l.reverse o
  rw [List.length_reverse] at h2
  rw [tmapGo, cw]; omega
theorem ij (t : Table) : (tmapM t).length <= 48 := by
 have := dF t.Base.Mem (chainsM t).1 []
 have := (fv t).2.2
 unfold tmapM
 simp only [List.length_nil, Nat.zero_add] at *
 omega
theorem eF (m : Mem) (h : Int) : ∀ (l : List Int) (o : List KV), putBack m o (l ++ [h]) = mapPut (putBack m o l) (nodeOf m h).Key (nodeOf m h).Val
 | [], o => rfl
 | x :: l, o => by rw [List.cons_append, putBack, eF m h l, putBack]
theorem dh (m : Mem) (l : List Int) : ∀ (L : List (List Int)) (o : List KV), tmapGo m o (L ++ [l]) = putBack m (tmapGo m o L) l.reverse
 | [], o => rfl
 | x :: L, o => by rw [List.cons_append, tmapGo, dh m l L, tmapGo]
theorem ik (m : Mem) : ∀ (B : List Bkt) (l : List (List Int)), chGo m B = some l -> ∀ c ∈ l, ∀ x ∈ c, isLiveM m x = true /\ hasNodeM m.Heap (x % 32) = true
 | [], l, h, c, hc => by cases h; cases hc
 | b :: B, l, h, c, hc => by
  rw [chGo] at h
  split at h
  ·obtain ⟨l', h1, rfl⟩ := Option.map_eq_some_iff.1 h
   rcases List.mem_cons.1 hc with rfl | hc
   ·intro x hx
    rcases cx m b.Head with e | ⟨_, hg⟩
    ·rw [e] at hx; cases hx
    ·exact ⟨(hg.2 x hx).1, (hg.2 x hx).2.1⟩
   ·exact ik m B l' h1 c hc
  ·cases h
theorem j5 (t : Table) : ∀ c ∈ (chainsM t).1, ∀ x ∈ c, isLiveM t.Base.Mem x = true /\ hasNodeM t.Base.Mem.Heap (x % 32) = true := by
 unfold chainsM
 cases h : tableOk t with
 | false => intro c hc; cases hc
 | true =>
  simp only [cond_true]
  split
  ·rename_i l hl; exact ik _ _ _ hl
  ·intro c hc; cases hc
theorem c19 (t : Table) (hz : sizTable t <= 1048576) : Ctr prog 19 [.agg ((encTable t).map .dat)] [] (.one (.own 0)) [.vec 2 true ((tmapM t).map encKV)] := by
 have hmx : maxLen = 9223372036854775807 := rfl
 have hct := c54 t hz
 obtain ⟨z1, _⟩ := cZ hz
 obtain ⟨zm, _⟩ := dE z1
 cases h0 : tableOk t with
 | false =>
  rw [h0] at hct
  have hcm : tmapM t = [] := by rw [tmapM, chainsM, h0]; rfl
  rw [hcm]
  simp only [encTable, List.map_cons, List.map_nil] at hct ⊢
  refine Ctr.bd aa func19 rfl ?_
  refine evl ?_
  refine scs ?_
  refine ck e54 (hct) rfl ?_
  refine evl ?_
  refine scs ?_
  refine Fin.nt results19 [1] ?_ ?_ ?_ <;> try trivial
  all_goals exact entd
 | true =>
 rw [h0] at hct
 obtain ⟨hbo, hb2, _⟩ := bL h0
 have hsh := (cO hbo).2.2.2.2
 have hm := (cO hbo).1
 have hcc := fun h => c65 t.Base.Mem zm hm h
 have hcr := fun h hl hn => c66 t.Base.Mem hsh h hl hn
 have hcm : chainsM t = (match chGo t.Base.Mem t.Bkts with
  | some l => (l, true)
  | none => ([], false)) := by rw [chainsM, h0]; rfl
 have hgd := fun (h : Int) => cx t.Base.Mem h
 simp only [encTable, encMem, encNode, List.map_cons, List.map_nil] at hct hcc hcr ⊢
 refine Ctr.bd aa func19 rfl ?_
 refine evl ?_
 refine scs ?_
 refine ck e54 (hct) rfl ?_
 refine evl ?_
 refine scs ?_
 refine ab (fun zn zs => ∃ (i : Nat) (o : List (List Int)), i <= 2 /\ zn = 2 - i /\ (chGo t.Base.Mem t.Bkts = (chGo t.Base.Mem (t.Bkts.drop i)).map (o ++ ·) /\ (tmapGo t.Base.Mem [] o).length <= 24 * i) /\ zs = mkSt [(4, .one (.dat (.int .i64 i))), (1, .one (.ptr (.own 0 0 0))), (3, .one (.own 1))] [.box [.dat (.sl 1 (t.Base.Mem.Heap.Bytes.map encI)), .dat (.sl 1 (t.Base.Mem.Heap.Class.map encI)), .dat (.sl 1 (t.Base.Mem.Lists.Global.map encSList)), .dat (.sl 1 (t.Base.Mem.Lists.Own.map encSList)), .dat (.int .i64 t.Base.Clock.Epoch), .dat (.sl 4 (t.Base.Clock.Pins.map encPin)), .dat (.sl 1 (t.Base.Limbo.map encLList)), .dat (.sl 1 (t.Base.Haz.map encI)), .dat (.sl 3 (t.Bkts.map encBkt)), .dat (.sl 32 (t.Jobs.map encTJob)), .dat (.sl 1 (t.Todo.map encTQueue)), .dat (.sl 6 (t.Log.map encTEv)), .dat (.int .i64 t.Serial)], .vec 2 true ((tmapGo t.Base.Mem [] o).map encKV)]) (2) _
  (Ent.wk [0, 1]) ⟨0, [], by omega, by omega, ⟨by simp, by simp [tmapGo]⟩, rfl⟩ ?_
 rintro zn zs ⟨i, o, hi, rfl, hinv, rfl⟩ K hK
 rcases Nat.lt_or_ge i (2) with hlt | hge
 ·have hdi : decide ((i : Int) < ((2 : Nat) : Int)) = true := decide_eq_true (by omega)
  have hw := ah hlt (show 2 <= maxLen by decide)
  obtain ⟨hv1, hv2⟩ := hinv
  have hd3 : decide ((i : Int) < 2) = true := decide_eq_true (by omega)
  have hgi : i < t.Bkts.length := by omega
  obtain ⟨b, hbi⟩ : ∃ b, t.Bkts[i] = b := ⟨_, rfl⟩
  rw [List.drop_eq_getElem_cons hgi, hbi, chGo] at hv1
  have hlc := fJ t.Base.Mem b.Head
  have hgb := hgd b.Head
  obtain ⟨L, hL⟩ : ∃ L, (chainR t.Base.Mem b.Head).1 = L := ⟨_, rfl⟩
  have hcb := hcc b.Head
  have hall : ∀ x ∈ L, isLiveM t.Base.Mem x = true /\ hasNodeM t.Base.Mem.Heap (x % 32) = true := by
   rcases hgb with e | ⟨_, hg⟩
   ·rw [e] at hL; cases hL; intro x hx; cases hx
   ·rw [hL] at hg; exact fun x hx => ⟨(hg.2 x hx).1, (hg.2 x hx).2.1⟩
  rw [hL] at hv1 hlc hcb
  have hwl : IntKind.i64.wrap ((L.length : Int) - 1) = (L.length : Int) - 1 := wrap_id (by omega) (by omega)
  refine sv55 ?_
  refine scs ?_
  refine ck e65 (hcb) rfl ?_
  refine sv55 ?_
  refine scs ?_
  constructor <;> intro hq
  ·rw [if_neg (by rw [bw hq]; simp)] at hv1
   have hcm2 : tmapM t = [] := by rw [tmapM, hcm, hv1]; rfl
   refine ⟨List.nodup_nil, ?_⟩
   apply hK
   rw [hcm2]
   refine sv55 ?_
   refine Fin.nt results19 [3] ?_ ?_ ?_ <;> try trivial
   all_goals exact entd
  ·rw [if_pos (bx hq)] at hv1
   refine scs ?_
   obtain ⟨O, hO⟩ : ∃ O, tmapGo t.Base.Mem [] o = O := ⟨_, rfl⟩
   rw [hO] at hv2 ⊢
   refine ab (fun zn zs => ∃ (j : Nat) (Q : List KV), zn = 0 + j /\ (j <= L.length /\ Q.length + j <= 24 * i + L.length /\ putBack t.Base.Mem Q (L.take j).reverse = putBack t.Base.Mem O L.reverse) /\ zs = mkSt [(1, .one (.ptr (.own 0 0 0))), (4, .one (.dat (.int .i64 i))), (3, .one (.own 1)), (5, .one (.own 2)), (7, .one (.dat (.int .i64 ((j : Int) - 1))))] [.box [.dat (.sl 1 (t.Base.Mem.Heap.Bytes.map encI)), .dat (.sl 1 (t.Base.Mem.Heap.Class.map encI)), .dat (.sl 1 (t.Base.Mem.Lists.Global.map encSList)), .dat (.sl 1 (t.Base.Mem.Lists.Own.map encSList)), .dat (.int .i64 t.Base.Clock.Epoch), .dat (.sl 4 (t.Base.Clock.Pins.map encPin)), .dat (.sl 1 (t.Base.Limbo.map encLList)), .dat (.sl 1 (t.Base.Haz.map encI)), .dat (.sl 3 (t.Bkts.map encBkt)), .dat (.sl 32 (t.Jobs.map encTJob)), .dat (.sl 1 (t.Todo.map encTQueue)), .dat (.sl 6 (t.Log.map encTEv)), .dat (.int .i64 t.Serial)], .vec 2 true (Q.map encKV), .vec 1 true (L.map encI)]) _ _
    (Ent.wk [0, 1, 2]) ⟨L.length, O, rfl, ⟨Nat.le_refl _, by omega, by rw [List.take_length]⟩, rfl⟩ ?_
   rintro zn zs ⟨j, Q, rfl, hinv2, rfl⟩ K2 hK2
   obtain ⟨w1, w2, w3⟩ := hinv2
   cases j with
   | zero =>
    have hd : decide ((0 : Int) <= ((0 : Nat) : Int) - 1) = false := rfl
    simp (maxSteps := 2000000) only [go_sem, seval, hd]
    apply hK2
    have hqe : Q = tmapGo t.Base.Mem [] (o ++ [L]) := by rw [dh, hO, <- w3]; rfl
    rw [hqe]
    refine sv55 ?_
    (apply hK
     exact ⟨2 - (i + 1), _, by omega, Ent.wk [0, 1], i + 1, o ++ [L], by omega, rfl, ⟨by rw [hv1, Option.map_map]; congr 1; funext x; simp, by rw [<- hqe]; omega⟩, rfl⟩)
   | succ j =>
    have hd : decide ((0 : Int) <= ((j + 1 : Nat) : Int) - 1) = true := decide_eq_true (by omega)
    have hj0 : ((j + 1 : Nat) : Int) - 1 = (j : Int) := by omega
    have hj1 : IntKind.i64.wrap ((j : Int) - 1) = (j : Int) - 1 := by rw [wrap_id (by omega) (by omega)]
    have hlj : j < L.length := by omega
    obtain ⟨x, hx⟩ : ∃ x, L[j] = x := ⟨_, rfl⟩
    have hxa := hall x (by rw [<- hx]; exact List.getElem_mem hlj)
    have hcx := hcr x hxa.1 hxa.2
    have htk : (L.take (j + 1)).reverse = x :: (L.take j).reverse := by rw [List.take_succ_eq_append_getElem hlj, hx]; simp
    rw [htk, putBack] at w3
    obtain ⟨N, hN⟩ : ∃ N, nodeOf t.Base.Mem x = N := ⟨_, rfl⟩
    rw [hN] at w3 hcx
    have hpl := bV Q N.Key N.Val
    have hdj : decide ((0 : Int) <= (j : Int)) = true := decide_eq_true (by omega)
    refine sv56 ?_
    repeat ((with_reducible show _ = true /\ _); refine ⟨by kernel_rfl, ?_⟩)
    refine scs ?_
    refine ck e66 (hcx) rfl ?_
    refine sv56 ?_
    repeat ((with_reducible show _ = true /\ _); refine ⟨by kernel_rfl, ?_⟩)
    refine scs ?_
    refine ck e67 (c67 Q (by omega) N.Key N.Val) rfl ?_
    refine sv56 ?_
    repeat ((with_reducible show _ = true /\ _); refine ⟨by kernel_rfl, ?_⟩)
    refine scs ?_
    (apply hK2
     exact ⟨_, _, by omega, Ent.wk [0, 4, 2], j, (mapPut Q N.Key N.Val), rfl, ⟨by omega, by omega, w3⟩, rfl⟩)
 ·have hge' : 2 = i := by omega
  subst hge'
  have hdi : decide (((2 : Nat) : Int) < ((2 : Nat) : Int)) = false := by simp
  obtain ⟨hv1, hv2⟩ := hinv
  have hoe : chGo t.Base.Mem t.Bkts = some o := by rw [hv1, List.drop_of_length_le (by omega)]; simp [chGo]
  have hcm2 : tmapM t = tmapGo t.Base.Mem [] o := by rw [tmapM, hcm, hoe]
  have hd3 : decide (((2 : Nat) : Int) < 2) = false := rfl
  refine sv33 ?_
  apply hK
  rw [hcm2]
  refine evl ?_
  refine Fin.nt results19 [1] ?_ ?_ ?_ <;> try trivial
  all_goals exact entd
def serialM (t : Table) : Bool := (replayM t.Log (t.Log.length : Int)).2 && (strict t.Log && (!idleM t || (tableOk t && decide (tmapM t = (replayM t.Log (t.Log.length : Int)).1))))
theorem gv {t : Table} (hz : sizTable t <= 1048576) : sizTEvS t.Log <= 1048576 /\ t.Log.length <= 1048576 := by
 unfold sizTable at hz
 refine ⟨by omega, ?_⟩
 unfold sizTEvS at hz
 omega
theorem c16 (t : Table) (hz : sizTable t <= 1048576) : Ctr prog 16 [.agg ((encTable t).map .dat)] [] (.one (.dat (.bool (serialM t)))) [] := by
 have hmx : maxLen = 9223372036854775807 := rfl
 obtain ⟨y1, y2⟩ := gv hz
 have hcr := c51 t.Log y1
 have hcs := c52 t.Log (by omega)
 have hci := c53 t hz
 have hct := c54 t hz
 have hcm := c19 t hz
 have hrl := gr t.Log (t.Log.length : Int)
 have hml := ij t
 have hcq := c55 (replayM t.Log (t.Log.length : Int)).1 (tmapM t) (by omega) (by omega)
 have hse : serialM t = ((replayM t.Log (t.Log.length : Int)).2 && (strict t.Log && (!idleM t || (tableOk t && decide ((replayM t.Log (t.Log.length : Int)).1 = tmapM t))))) := by
  rw [serialM, show decide (tmapM t = (replayM t.Log (t.Log.length : Int)).1) = decide ((replayM t.Log (t.Log.length : Int)).1 = tmapM t) from decide_eq_decide.2 ⟨Eq.symm, Eq.symm⟩]
 rw [hse]
 generalize replayM t.Log (t.Log.length : Int) = R at hcr hcq hrl ⊢
 generalize tmapM t = M at hcm hcq hml ⊢
 obtain ⟨m, all⟩ := R
 simp only [encTable, List.map_cons, List.map_nil] at hci hct hcm hcr hcq ⊢
 clear hse
 generalize strict t.Log = sb at hcs ⊢
 generalize idleM t = ib at hci ⊢
 generalize tableOk t = ob at hct ⊢
 refine Ctr.bd aa func16 rfl ?_
 refine evl ?_
 refine scs ?_
 refine ck e51 (hcr) rfl ?_
 cases all <;> cases sb
 all_goals
  refine evl ?_
  repeat ((with_reducible show _ = true /\ _); refine ⟨by kernel_rfl, ?_⟩)
  refine scs ?_
  refine ck e52 (hcs) rfl ?_
  refine evl ?_
  repeat ((with_reducible show _ = true /\ _); refine ⟨by kernel_rfl, ?_⟩)
  refine scs ?_
 ·refine Fin.nt results16 [] ?_ ?_ ?_ <;> try trivial
 ·refine Fin.nt results16 [] ?_ ?_ ?_ <;> try trivial
 ·refine Fin.nt results16 [] ?_ ?_ ?_ <;> try trivial
 ·trace_state
  refine ck e53 (hci) rfl ?_
  refine evl ?_
  repeat ((with_reducible show _ = true /\ _); refine ⟨by kernel_rfl, ?_⟩)
  refine scs ?_
  refine ck e54 (hct) rfl ?_
  refine evl ?_
  repeat ((with_reducible show _ = true /\ _); refine ⟨by kernel_rfl, ?_⟩)
  refine scs ?_
  first | refine cr e19 (fun hg => ⟨by first | exact trivial | exact hg | simp_all, hcm⟩) rfl ?_ | refine Or.inl (cr e19 (fun hg => ⟨by first | exact trivial | exact hg | simp_all, hcm⟩) rfl ?_)
  refine evl ?_
  repeat ((with_reducible show _ = true /\ _); refine ⟨by kernel_rfl, ?_⟩)
  refine scs ?_
  refine ck e55 (hcq) rfl ?_
  refine evl ?_
  repeat ((with_reducible show _ = true /\ _); refine ⟨by kernel_rfl, ?_⟩)
  refine scs ?_
  refine Fin.nt results16 [] ?_ ?_ ?_ <;> try trivial
  (refine rsl ?_; try exact .intro)
  cases ib <;> cases ob <;> simp
theorem gw : ∀ (C : List (List Int)) (i : Nat), sumIL (C.take i) <= sumIL C
 | [], _ => by simp
 | c :: C, 0 => by simp [sumIL]
 | c :: C, i + 1 => by
  have := gw C i
  rw [List.take_succ_cons, cw, cw]; omega
theorem iy {t : Table} {c : List Int} (hc : c ∈ (chainsM t).1) : shapedM t.Base.Mem.Heap = true := by
 cases h0 : tableOk t with
 | false => rw [chainsM, h0] at hc; cases hc
 | true => exact (cO (bL h0).1).2.2.2.2
theorem c20 (t : Table) (hz : sizTable t <= 1048576) : Ctr prog 20 [.agg ((encTable t).map .dat)] [] (.one (.own 0)) [.vec 2 true ((tmapM t).map encKV)] := by
 have hmx : maxLen = 9223372036854775807 := rfl
 have hcc := c68 t hz
 obtain ⟨l1, l2, l3⟩ := fv t
 have hgood := j5 t
 have hsh := fun c hc => iy (t := t) (c := c) hc
 have hlen := fun (L : List (List Int)) => dF t.Base.Mem L []
 have hcn := fun hs s hn => c70 t.Base.Mem.Heap hs s hn
 have hhand := gG t
 have htm : tmapM t = tmapGo t.Base.Mem [] (chainsM t).1 := rfl
 rw [htm]
 generalize (chainsM t).1 = C at hcc l1 l2 l3 hgood hsh hhand ⊢
 simp only [encTable, encHeap, encNode, List.map_cons, List.map_nil] at hcc hcn ⊢
 refine Ctr.bd aa func20 rfl ?_
 refine evl ?_
 refine scs ?_
 refine ck e68 (hcc) rfl ?_
 refine sv18 ?_
 refine scs ?_
 refine g7 (Ent.unsep (o := 3) rfl) ?_
 refine evl ?_
 refine ab (fun zn zs => ∃ (i : Nat) (O : List KV), i <= C.length /\ zn = C.length - i /\ (O = tmapGo t.Base.Mem [] (C.take i)) /\ zs = mkSt [(19, .one (.dat (.int .i64 i))), (18, .one (.dat (.int .i64 (C.length)))), (17, .one (.own 3)), (1, .one (.ptr (.own 0 0 0))), (3, .one (.ptr (.own 2 0 0)))] [.box [.dat (.sl 1 (t.Base.Mem.Heap.Bytes.map encI)), .dat (.sl 1 (t.Base.Mem.Heap.Class.map encI)), .dat (.sl 1 (t.Base.Mem.Lists.Global.map encSList)), .dat (.sl 1 (t.Base.Mem.Lists.Own.map encSList)), .dat (.int .i64 t.Base.Clock.Epoch), .dat (.sl 4 (t.Base.Clock.Pins.map encPin)), .dat (.sl 1 (t.Base.Limbo.map encLList)), .dat (.sl 1 (t.Base.Haz.map encI)), .dat (.sl 3 (t.Bkts.map encBkt)), .dat (.sl 32 (t.Jobs.map encTJob)), .dat (.sl 1 (t.Todo.map encTQueue)), .dat (.sl 6 (t.Log.map encTEv)), .dat (.int .i64 t.Serial)], .vec 2 true (O.map encKV), .box [.own 1], .vec 1 false (C.map encIL)]) (C.length) _
  (Ent.wk [0, 1, 2, 3]) ⟨0, [], by omega, by omega, rfl, rfl⟩ ?_
 rintro zn zs ⟨i, O, hi, rfl, hinv, rfl⟩ K hK
 rcases Nat.lt_or_ge i (C.length) with hlt | hge
 ·have hdi : decide ((i : Int) < ((C.length : Nat) : Int)) = true := decide_eq_true (by omega)
  have hw := ah hlt (show C.length <= maxLen by omega)
  obtain ⟨L, hL⟩ : ∃ L, C[i] = L := ⟨_, rfl⟩
  have hmem : L ∈ C := hL ▸ List.getElem_mem hlt
  have hLl := l2 L hmem
  have hO := hinv.symm
  have hOn : putBack t.Base.Mem O L.reverse = tmapGo t.Base.Mem [] (C.take (i + 1)) := by
   rw [List.take_succ_eq_append_getElem hlt, hL, dh, hO]
  have hOl : O.length <= 48 := by
   have h1 := hlen (C.take i)
   have h2 := gw C i
   rw [hO] at h1
   simp only [List.length_nil] at h1
   omega
  refine sv57 ?_
  refine scs ?_
  refine jV e69 (m5 [.box [.dat (.sl 1 (t.Base.Mem.Heap.Bytes.map encI)), .dat (.sl 1 (t.Base.Mem.Heap.Class.map encI)), .dat (.sl 1 (t.Base.Mem.Lists.Global.map encSList)), .dat (.sl 1 (t.Base.Mem.Lists.Own.map encSList)), .dat (.int .i64 t.Base.Clock.Epoch), .dat (.sl 4 (t.Base.Clock.Pins.map encPin)), .dat (.sl 1 (t.Base.Limbo.map encLList)), .dat (.sl 1 (t.Base.Haz.map encI)), .dat (.sl 3 (t.Bkts.map encBkt)), .dat (.sl 32 (t.Jobs.map encTJob)), .dat (.sl 1 (t.Todo.map encTQueue)), .dat (.sl 6 (t.Log.map encTEv)), .dat (.int .i64 t.Serial)], .vec 2 true (O.map encKV), .box [.own 1], .vec 1 false (C.map encIL)] (L.map encI)) rfl ⟨_, _, rfl, rfl⟩ ?_
  rintro r objs' ⟨rfl, rfl⟩
  simp only [List.length_cons, List.length_nil, Nat.zero_add, Nat.reduceAdd, List.cons_append, List.nil_append]
  refine sv57 ?_
  refine scs ?_
  have hall : ∀ x ∈ L, isLiveM t.Base.Mem x = true /\ hasNodeM t.Base.Mem.Heap (x % 32) = true := hgood L hmem
  have hhl : ∀ x ∈ L, handleOk x = true := fun x hx => hhand x (List.mem_flatten.2 ⟨L, hmem, hx⟩)
  have hshL := hsh L hmem
  refine ⟨24, 159, 4, 25, 26, [(9, true)], L, [(24, .one (.fn 159 [.own 4 0 0])), (1, .one (.ptr (.own 0 0 0))), (3, .one (.ptr (.own 2 0 0))), (17, .one (.own 3)), (18, .one (.dat (.int .i64 C.length))), (19, .one (.dat (.int .i64 i)))],
   fun pre s => pre.length <= L.length /\ s = mkSt [(24, .one (.fn 159 [.own 4 0 0])), (1, .one (.ptr (.own 0 0 0))), (3, .one (.ptr (.own 2 0 0))), (17, .one (.own 3)), (18, .one (.dat (.int .i64 C.length))), (19, .one (.dat (.int .i64 i)))]
    [.box [.dat (.sl 1 (t.Base.Mem.Heap.Bytes.map encI)), .dat (.sl 1 (t.Base.Mem.Heap.Class.map encI)), .dat (.sl 1 (t.Base.Mem.Lists.Global.map encSList)), .dat (.sl 1 (t.Base.Mem.Lists.Own.map encSList)), .dat (.int .i64 t.Base.Clock.Epoch), .dat (.sl 4 (t.Base.Clock.Pins.map encPin)), .dat (.sl 1 (t.Base.Limbo.map encLList)), .dat (.sl 1 (t.Base.Haz.map encI)), .dat (.sl 3 (t.Bkts.map encBkt)), .dat (.sl 32 (t.Jobs.map encTJob)), .dat (.sl 1 (t.Todo.map encTQueue)), .dat (.sl 6 (t.Log.map encTEv)), .dat (.int .i64 t.Serial)], .vec 2 true ((putBack t.Base.Mem O pre).map encKV), .box [.own 1], .vec 1 false (C.map encIL), .box [.dat (.sl 1 (L.map encI))]],
   _, rfl, rfl, AsgOk.second, by simp [dsts], mb, by omega, rfl, by simp [dsts], ?ia, Ent.wk [0, 1, 2, 3, 4], ⟨Nat.zero_le _, rfl⟩, ?round, ?done⟩
  case ia =>
   rintro pre s ⟨_, rfl⟩
   exact ⟨rfl, rfl, rfl⟩
  case round =>
   rintro pre ix z s hz hlt3 ⟨hpl, rfl⟩
   suffices hs : ∀ K3 : Exit -> St -> Prop, (∀ s', (∃ s2, Ent 0 s' s2 /\ (pre ++ [z]).length <= L.length /\ s2 = mkSt [(24, .one (.fn 159 [.own 4 0 0])), (1, .one (.ptr (.own 0 0 0))), (3, .one (.ptr (.own 2 0 0))), (17, .one (.own 3)), (18, .one (.dat (.int .i64 C.length))), (19, .one (.dat (.int .i64 i)))]
    [.box [.dat (.sl 1 (t.Base.Mem.Heap.Bytes.map encI)), .dat (.sl 1 (t.Base.Mem.Heap.Class.map encI)), .dat (.sl 1 (t.Base.Mem.Lists.Global.map encSList)), .dat (.sl 1 (t.Base.Mem.Lists.Own.map encSList)), .dat (.int .i64 t.Base.Clock.Epoch), .dat (.sl 4 (t.Base.Clock.Pins.map encPin)), .dat (.sl 1 (t.Base.Limbo.map encLList)), .dat (.sl 1 (t.Base.Haz.map encI)), .dat (.sl 3 (t.Bkts.map encBkt)), .dat (.sl 32 (t.Jobs.map encTJob)), .dat (.sl 1 (t.Todo.map encTQueue)), .dat (.sl 6 (t.Log.map encTEv)), .dat (.int .i64 t.Serial)], .vec 2 true ((putBack t.Base.Mem O (pre ++ [z])).map encKV), .box [.own 1], .vec 1 false (C.map encIL), .box [.dat (.sl 1 (L.map encI))]]) -> K3 .normal s') ->
    wpA _ 0 _ K3 (mkSt ((9, .one (.dat (.int .i64 z))) :: (26, .one (.dat (.int .i64 z))) :: (25, .one (.dat (.int .i64 ix))) :: [(24, .one (.fn 159 [.own 4 0 0])), (1, .one (.ptr (.own 0 0 0))), (3, .one (.ptr (.own 2 0 0))), (17, .one (.own 3)), (18, .one (.dat (.int .i64 C.length))), (19, .one (.dat (.int .i64 i)))])
     [.box [.dat (.sl 1 (t.Base.Mem.Heap.Bytes.map encI)), .dat (.sl 1 (t.Base.Mem.Heap.Class.map encI)), .dat (.sl 1 (t.Base.Mem.Lists.Global.map encSList)), .dat (.sl 1 (t.Base.Mem.Lists.Own.map encSList)), .dat (.int .i64 t.Base.Clock.Epoch), .dat (.sl 4 (t.Base.Clock.Pins.map encPin)), .dat (.sl 1 (t.Base.Limbo.map encLList)), .dat (.sl 1 (t.Base.Haz.map encI)), .dat (.sl 3 (t.Bkts.map encBkt)), .dat (.sl 32 (t.Jobs.map encTJob)), .dat (.sl 1 (t.Todo.map encTQueue)), .dat (.sl 6 (t.Log.map encTEv)), .dat (.int .i64 t.Serial)], .vec 2 true ((putBack t.Base.Mem O pre).map encKV), .box [.own 1], .vec 1 false (C.map encIL), .box [.dat (.sl 1 (L.map encI))]]) from hs _ (fun s' h => ⟨rfl, h⟩)
   intro K3 hK3
   have hzh := hhl z hz
   have hz32 : 32 <= z := by
    have := hzh
    unfold handleOk within at this
    simp only [Bool.and_eq_true, decide_eq_true_eq] at this
    omega
   have hzm : Int.tmod z 32 = z % 32 := Int.tmod_eq_emod_of_nonneg (by omega)
   have hzw : IntKind.i64.wrap (z % 32) = z % 32 := wrap_id (by omega) (by omega)
   have hcz := hcn hshL (z % 32) (hall z hz).2
   obtain ⟨N, hN⟩ : ∃ N, nodeOf t.Base.Mem z = N := ⟨_, rfl⟩
   have hNe : nodeInM t.Base.Mem.Heap (z % 32) = N := by rw [<- hN]; rfl
   rw [hNe] at hcz
   obtain ⟨Q, hQ⟩ : ∃ Q, putBack t.Base.Mem O pre = Q := ⟨_, rfl⟩
   have hQl := dg t.Base.Mem pre O
   rw [eF, hN] at hK3
   rw [hQ] at hQl hK3 ⊢
   refine sv58 ?_
   repeat ((with_reducible show _ = true /\ _); refine ⟨by kernel_rfl, ?_⟩)
   refine scs ?_
   refine ck e70 (hcz) rfl ?_
   refine sv58 ?_
   repeat ((with_reducible show _ = true /\ _); refine ⟨by kernel_rfl, ?_⟩)
   refine scs ?_
   refine ck e71 (c71 Q (by omega) N.Key N.Val) rfl ?_
   refine sv58 ?_
   repeat ((with_reducible show _ = true /\ _); refine ⟨by kernel_rfl, ?_⟩)
   refine scs ?_
   (apply hK3
    exact ⟨_, Ent.wk [0, 6, 2, 3, 4], by rw [List.length_append, List.length_cons, List.length_nil]; omega, rfl⟩)
  case done =>
   rintro s ⟨_, rfl⟩
   rw [hOn]
   refine sv57 ?_
   refine scs ?_
   (apply hK
    exact ⟨C.length - (i + 1), _, by omega, Ent.wk [0, 1, 2, 3], i + 1, (tmapGo t.Base.Mem [] (C.take (i + 1))), by omega, rfl, rfl, rfl⟩)
 ·have hge' : C.length = i := by omega
  subst hge'
  have hdi : decide (((C.length : Nat) : Int) < ((C.length : Nat) : Int)) = false := by simp
  refine sv3 ?_
  apply hK
  refine evl ?_
  rw [hinv, List.take_length]
  refine Fin.nt results20 [1] ?_ ?_ ?_ <;> try trivial
  all_goals exact entd
theorem c18 (t : Table) (hz : sizTable t <= 1048576) : Ctr prog 18 [.agg ((encTable t).map .dat)] [] (.one (.dat (.bool (serialM t)))) [] := by
 have hmx : maxLen = 9223372036854775807 := rfl
 obtain ⟨y1, y2⟩ := gv hz
 have hcr := c60 t.Log y1
 have hcs := c61 t.Log (by omega)
 have hci := c62 t hz
 have hct := c63 t hz
 have hcm := c20 t hz
 have hrl := gr t.Log (t.Log.length : Int)
 have hml := ij t
 have hcq := c64 (tmapM t) (replayM t.Log (t.Log.length : Int)).1 (by omega) (by omega)
 have hse : serialM t = ((replayM t.Log (t.Log.length : Int)).2 && (strict t.Log && (!idleM t || (tableOk t && decide (tmapM t = (replayM t.Log (t.Log.length : Int)).1))))) := rfl
 rw [hse]
 generalize replayM t.Log (t.Log.length : Int) = R at hcr hcq hrl ⊢
 generalize tmapM t = M at hcm hcq hml ⊢
 obtain ⟨m, all⟩ := R
 simp only [encTable, List.map_cons, List.map_nil] at hci hct hcm hcr hcq ⊢
 clear hse
 generalize strict t.Log = sb at hcs ⊢
 generalize idleM t = ib at hci ⊢
 generalize tableOk t = ob at hct ⊢
 refine Ctr.bd aa func18 rfl ?_
 refine evl ?_
 refine scs ?_
 refine ck e60 (hcr) rfl ?_
 refine evl ?_
 repeat ((with_reducible show _ = true /\ _); refine ⟨by kernel_rfl, ?_⟩)
 refine scs ?_
 refine ck e61 (hcs) rfl ?_
 refine evl ?_
 repeat ((with_reducible show _ = true /\ _); refine ⟨by kernel_rfl, ?_⟩)
 refine scs ?_
 refine ck e62 (hci) rfl ?_
 refine evl ?_
 repeat ((with_reducible show _ = true /\ _); refine ⟨by kernel_rfl, ?_⟩)
 refine scs ?_
 refine ck e63 (hct) rfl ?_
 refine evl ?_
 repeat ((with_reducible show _ = true /\ _); refine ⟨by kernel_rfl, ?_⟩)
 refine scs ?_
 first | refine cr e20 (fun hg => ⟨by first | exact trivial | exact hg | simp_all, hcm⟩) rfl ?_ | refine Or.inl (cr e20 (fun hg => ⟨by first | exact trivial | exact hg | simp_all, hcm⟩) rfl ?_)
 refine evl ?_
 repeat ((with_reducible show _ = true /\ _); refine ⟨by kernel_rfl, ?_⟩)
 refine scs ?_
 refine ck e64 (hcq) rfl ?_
 refine evl ?_
 repeat ((with_reducible show _ = true /\ _); refine ⟨by kernel_rfl, ?_⟩)
 refine scs ?_
 refine Fin.nt results18 [] ?_ ?_ ?_ <;> try trivial
 (refine rsl ?_; try exact .intro)
 cases all <;> cases sb <;> cases ib <;> cases ob <;> simp
end Go.Proofs.YtkmmgklnoagedaaGreat.Mod
namespace Go.Proofs.YtkmmgklnoagedaaGreat.fnExactSerialOk
open Go.Proofs.Tryz Go.Abs Go.Proofs.YtkmmgklnoagedaaGreat.Ty Go.ChangeShapes Go.WideShapes Go.ChangeAt Go.RowKit Go.Proofs.YtkmmgklnoagedaaGreat.Mod
set_option linter.unusedSimpArgs false
set_option linter.unusedVariables false
set_option maxHeartbeats 8000000
set_option maxRecDepth 100000
theorem c4 (t : Table) (hkt : t.lok) : Ctr prog 4 [.agg ((encTable t).map .dat)] [] (.one (.dat (.bool true))) [] := by
 simp only [encTable, List.map_cons, List.map_nil]
 refine Ctr.bd aa func4 rfl ?_
 refine sv18 ?_
 repeat ((with_reducible show _ = true /\ _); refine ⟨by kernel_rfl, ?_⟩)
 refine ae e15 (c15 t hkt 1048576 (by decide) (by decide)) rfl ?_
 refine sv18 ?_
 repeat ((with_reducible show _ = true /\ _); refine ⟨by kernel_rfl, ?_⟩)
 constructor <;> intro h
 ·refine Fin.nt results4 [] ?_ ?_ ?_ <;> try trivial
 obtain ⟨hst, hzt, hgt, hht⟩ := az (by decide) h
 clear h
 repeat ((with_reducible show _ = true /\ _); refine ⟨by kernel_rfl, ?_⟩)
 first
  | refine ae e17 (c17 t hst) rfl ?_
  | refine ax e17 (c17 t hst) rfl rfl ?_ (fun _ => by simp)
  | refine Or.inl (ax e17 (c17 t hst) rfl rfl ?_ (fun _ => by simp))
  | refine Or.inr ⟨by kernel_rfl, aL e17 (c17 t hst) rfl ?_⟩
  | refine Or.inr (aL e17 (c17 t hst) rfl ?_)
 refine sv18 ?_
 repeat ((with_reducible show _ = true /\ _); refine ⟨by kernel_rfl, ?_⟩)
 first
  | refine ae e16 (c16 t hst) rfl ?_
  | refine ax e16 (c16 t hst) rfl rfl ?_ (fun _ => by simp)
  | refine Or.inl (ax e16 (c16 t hst) rfl rfl ?_ (fun _ => by simp))
  | refine Or.inr ⟨by kernel_rfl, aL e16 (c16 t hst) rfl ?_⟩
  | refine Or.inr (aL e16 (c16 t hst) rfl ?_)
 refine sv18 ?_
 repeat ((with_reducible show _ = true /\ _); refine ⟨by kernel_rfl, ?_⟩)
 first
  | refine ae e17 (c17 t hst) rfl ?_
  | refine ax e17 (c17 t hst) rfl rfl ?_ (fun _ => by simp)
  | refine Or.inl (ax e17 (c17 t hst) rfl rfl ?_ (fun _ => by simp))
  | refine Or.inr ⟨by kernel_rfl, aL e17 (c17 t hst) rfl ?_⟩
  | refine Or.inr (aL e17 (c17 t hst) rfl ?_)
 refine sv18 ?_
 repeat ((with_reducible show _ = true /\ _); refine ⟨by kernel_rfl, ?_⟩)
 first
  | refine ae e18 (c18 t hst) rfl ?_
  | refine ax e18 (c18 t hst) rfl rfl ?_ (fun _ => by simp)
  | refine Or.inl (ax e18 (c18 t hst) rfl rfl ?_ (fun _ => by simp))
  | refine Or.inr ⟨by kernel_rfl, aL e18 (c18 t hst) rfl ?_⟩
  | refine Or.inr (aL e18 (c18 t hst) rfl ?_)
 refine sv18 ?_
 repeat ((with_reducible show _ = true /\ _); refine ⟨by kernel_rfl, ?_⟩)
 first
  | refine ae e17 (c17 t hst) rfl ?_
  | refine ax e17 (c17 t hst) rfl rfl ?_ (fun _ => by simp)
  | refine Or.inl (ax e17 (c17 t hst) rfl rfl ?_ (fun _ => by simp))
  | refine Or.inr ⟨by kernel_rfl, aL e17 (c17 t hst) rfl ?_⟩
  | refine Or.inr (aL e17 (c17 t hst) rfl ?_)
 refine sv18 ?_
 repeat ((with_reducible show _ = true /\ _); refine ⟨by kernel_rfl, ?_⟩)
 first
  | refine ae e10 (c10 t t hst hst) rfl ?_
  | refine ax e10 (c10 t t hst hst) rfl rfl ?_ (fun _ => by simp)
  | refine Or.inl (ax e10 (c10 t t hst hst) rfl rfl ?_ (fun _ => by simp))
  | refine Or.inr ⟨by kernel_rfl, aL e10 (c10 t t hst hst) rfl ?_⟩
  | refine Or.inr (aL e10 (c10 t t hst hst) rfl ?_)
 refine sv18 ?_
 repeat ((with_reducible show _ = true /\ _); refine ⟨by kernel_rfl, ?_⟩)
 refine Fin.nt results4 [] ?_ ?_ ?_ <;> try trivial
theorem law (dss : List (List D)) (h : WTAll prog 8 f4.params.toList dss) : Ctr prog 4 (argAVs prog f4.params.toList dss) [] (.one (.dat (.bool true))) [] := by
 rw [params4] at *
 simp only [WTAll, List.toList_toArray] at h
 obtain ⟨_, _, rfl, h0, rfl⟩ := h
 obtain ⟨x0, rfl, w0, k0⟩ := na _ _ h0
 simp only [argAVs, argAV, List.toList_toArray, underlying67, List.headD_cons]
 exact c4 x0 k0
theorem own : ownKnob prog.godebug = none := by kernel_rfl
set_option maxRecDepth 100000 in
theorem oW (os : Os) (started : os.Started) (H : Type) (enc : TypeId × Value -> H) :
  ReturnsInHanded {} Tryz.checked os 4 .any (Rows.fnExactSerialOkSpec.pre6 enc prog f4 Rows.fnExactSerialOkRow.domain false) (Rows.fnExactSerialOkSpec.post enc prog f4 false true false false) := by
 refine returnsInHanded_of_change (C := Tryz.checked) own started (by kernel_rfl) func4
  (ChangeSpec.witness6 (enc := enc) (C := Tryz.checked) false ⟨#[], #[.agg #[.slice none 0 0, .slice none 0 0, .slice none 0 0, .slice none 0 0, .int .i64 0, .slice none 0 0, .slice none 0 0, .slice none 0 0, .slice none 0 0, .slice none 0 0, .slice none 0 0, .slice none 0 0, .int .i64 0]], []⟩ 8 (by kernel_rfl) (by kernel_rfl) (by kernel_rfl) (by kernel_rfl)) ?_
 intro W base args ds gs before hval0 hW hcnd _
 have hW' := hW
 obtain ⟨p, q, hA0, hV, rfl, hfz, hnd⟩ := hW'
 have hA : DataW.TrodAll enc prog W 0 (fun _ => true) true f4.params.toList args.toList ds p := hA0
 obtain ⟨dss, h1, h2⟩ := je (n := 8) (by kernel_rfl) (fun j t v hj hv => hval0 j t v (by simpa using hj) (by simpa using hv)) hA
 have hs : Rows.fnExactSerialOkSpec.fn H (ds ++ gs) = { results := [.lit (.bool true)], args := ds, vars := [] } := by
  obtain ⟨rfl, rfl⟩ := trodVars_none hV
  rw [params4] at hA
  obtain ⟨v0, vs0, d0, ds0, p0, q0, _, rfl, _, _, r0⟩ := trodAll_cons hA
  obtain ⟨_, rfl, _⟩ := trodAll_nil r0
  rfl
 have hc := l9 (law dss h1) h2
 rw [Array.toArray_toList] at hc
 refine hc.mono fun e W' ⟨he, hb⟩ => ?_
 subst he
 exact ⟨_, rfl, m4 (by kernel_rfl) (by kernel_rfl) rfl hW hs rfl underlying4 hb⟩
theorem jt : joinedFacts prog 4 f4 Rows.fnExactSerialOkSpec Rows.fnExactSerialOkRow = true := by
 unfold joinedFacts
 simp only [Bool.and_eq_true, Whole.laidOut, Whole.rowed, Whole.stops, Whole.knobs, Whole.keys, Whole.heard, Whole.enter, Whole.lifts, Whole.make, true_and, and_true]
 repeat' (refine And.intro ?_ ?_)
 all_goals (as_aux_lemma => kernel_rfl)
theorem over : Rows.fnExactSerialOkRow.holds Tryz.pinned (OpenSpec.ofChange Rows.fnExactSerialOkSpec) :=
 OpenClaim.holds_of_wide 4 f4 rfl rfl rfl rfl rfl rfl rfl ⟨rfl, rfl, rfl, rfl, rfl⟩ rfl rfl rfl rfl rfl (by kernel_rfl) func4 jt
  (of_decide_eq_true (by kernel_rfl)) (by unfold Func.isWrapper; first | (rw [if_pos (by decide +kernel)]; kernel_rfl) | (rw [if_neg (by decide +kernel)]; exact ⟨rfl, rfl⟩))
  (fun os started H enc _ => oW os started H enc)
theorem proved : Rows.FnExactSerialOkSaid :=
 over
end Go.Proofs.YtkmmgklnoagedaaGreat.fnExactSerialOk
