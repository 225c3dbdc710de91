import Derived.Test.YtkmmgklnoagedaaGreatRows
import Derived.Test.YtkmmgklnoagedaaGreatQATy
import Derived.Test.YtkmmgklnoagedaaGreatQAbsTac
import Derived.Test.YtkmmgklnoagedaaGreatQAbsData
import Derived.Test.YtkmmgklnoagedaaGreatQAFam2
import Derived.Test.YtkmmgklnoagedaaGreatQAMap
import Derived.Test.YtkmmgklnoagedaaGreatQASl2
import Derived.WalkKit
import Derived.ProofKit
import Derived.OpenShut
/- Contracts: Hist. -/
namespace Go.Proofs.YtkmmgklnoagedaaGreat.Mod
open Go.Proofs.Tryz Go.Abs Go.Proofs.YtkmmgklnoagedaaGreat.Ty Go.ChangeShapes Go.WideShapes Go.ChangeAt Go.RowKit
set_option linter.unusedSimpArgs false
set_option linter.unusedVariables false
set_option maxHeartbeats 8000000
set_option maxRecDepth 100000
def cmdOkC (c : Cmd) : Bool := cmdOk c.Kind c.Key c.Val
def batchOk (b : Batch) : Bool := bif b.Collect then ((b.Cmds.length : Int) == 0) else within b.Cmds.length 1 6 && b.Cmds.all cmdOkC
theorem c175 (x : Cmd) : Ctr prog 175 [.agg ((encCmd x).map .dat)] [] (.one (.dat (.bool (!cmdOkC x)))) [] := by
 simp only [encCmd, List.map_cons, List.map_nil]
 refine Ctr.bd aa func175 rfl ?_
 refine evl ?_
 refine ae e176 (c176 ..) rfl ?_
 refine evl ?_
 refine Fin.nt results175 [] ?_ ?_ ?_ <;> try trivial
theorem c85 (b : Batch) (hl : b.Cmds.length <= maxLen) : Ctr prog 85 [.agg ((encBatch b).map .dat)] [] (.one (.dat (.bool (batchOk b)))) [] := by
 simp only [encBatch, List.map_cons, List.map_nil]
 refine Ctr.bd aa func85 rfl ?_
 refine sv18 ?_
 constructor <;> intro h
 ·refine Fin.nt results85 [] ?_ ?_ ?_ <;> try trivial
  (refine rsl ?_; try exact .intro)
  simp only [batchOk, h, cond_true]
 refine ck e151 (c151 ..) rfl ?_
 refine sv18 ?_
 refine scs ?_
 refine ck e174 (od b.Cmds hl e175 (fun x _ => c175 x)) rfl ?_
 refine sv18 ?_
 refine scs ?_
 refine Fin.nt results85 [] ?_ ?_ ?_ <;> try trivial
 (refine rsl ?_; try exact .intro)
 simp only [batchOk, h, cond_false, <- aG]
 cases within b.Cmds.length 1 6 <;> rfl
theorem c74 (b : Batch) (hl : b.Cmds.length <= maxLen) : Ctr prog 74 [.agg ((encBatch b).map .dat)] [] (.one (.dat (.bool (batchOk b)))) [] := by
 simp only [encBatch, List.map_cons, List.map_nil]
 refine Ctr.bd aa func74 rfl ?_
 refine sv18 ?_
 refine ⟨fun h => ?_, fun hc => ?_⟩
 ·refine Fin.nt results74 [] ?_ ?_ ?_ <;> try trivial
  (refine rsl ?_; try exact .intro)
  simp only [batchOk, h, cond_true]
 refine ab (fun zn zs => ∃ i : Nat, i <= b.Cmds.length /\ zn = b.Cmds.length - i /\ (b.Cmds.all cmdOkC = (b.Cmds.drop i).all cmdOkC) /\ zs = mkSt [(3, .one (.dat (.int .i64 i))), (1, .one (.ptr (.own 0 0 0)))] [.box [.dat (.bool b.Collect), .dat (.sl 3 (b.Cmds.map encCmd))]]) (b.Cmds.length) _
  (Ent.wk [0]) ⟨0, by omega, by omega, by simp, rfl⟩ ?_
 rintro zn zs ⟨i, hi, rfl, hinv, rfl⟩ K hK
 rcases Nat.lt_or_ge i (b.Cmds.length) with hlt | hge
 ·have hdi : decide ((i : Int) < ((b.Cmds.length : Nat) : Int)) = true := decide_eq_true (by omega)
  have hw := ah hlt hl
  rw [List.drop_eq_getElem_cons hlt, List.all_cons] at hinv
  simp (maxSteps := 2000000) only [go_sem, seval, hdi, hw, getD_map hlt, encCmd]
  refine scs ?_
  refine ck e167 (c167 ..) rfl ?_
  refine sv2 ?_
  constructor <;> intro h
  ·have h' : cmdOkC b.Cmds[i] = false := by simpa [cmdOkC] using h
   rw [h', Bool.false_and] at hinv
   apply hK
   refine evl ?_
   refine Fin.nt results74 [] ?_ ?_ ?_ <;> try trivial
   (refine rsl ?_; try exact .intro)
   simp [batchOk, hc, hinv]
  ·have h' : cmdOkC b.Cmds[i] = true := by simpa [cmdOkC] using h
   rw [h', Bool.true_and] at hinv
   (apply hK
    exact ⟨b.Cmds.length - (i + 1), _, by omega, Ent.wk [0], i + 1, by omega, rfl, hinv, rfl⟩)
 ·have hge' : b.Cmds.length = i := by omega
  subst hge'
  have hdi : decide (((b.Cmds.length : Nat) : Int) < ((b.Cmds.length : Nat) : Int)) = false := by simp
  rw [List.drop_length, List.all_nil] at hinv
  refine sv3 ?_
  apply hK
  refine sv18 ?_
  refine ck e126 (c126 ..) rfl ?_
  refine evl ?_
  refine Fin.nt results74 [] ?_ ?_ ?_ <;> try trivial
  (refine rsl ?_; try exact .intro)
  simp [batchOk, hc, hinv]
def evIs (k s : Int) (e : TEv) : Bool := bif e.Kind == k then e.Serial == s else false
def placeOf (l : List TEv) (k s : Int) : Int := ixF (evIs k s) l
def inTime (l : List TEv) (a b : Int) : Bool := decide (0 <= placeOf l 3 a) && decide (0 <= placeOf l 1 b) && decide (placeOf l 3 a < placeOf l 1 b)
theorem c298 (x : TEv) (k s : Int) : Ctr prog 298 [.agg ((encTEv x).map .dat), .one (.ptr (.ro 1 [[.int .i64 k]] 0 0)), .one (.ptr (.ro 1 [[.int .i64 s]] 0 0))] [] (.one (.dat (.bool (evIs k s x)))) [] := by
 simp only [encTEv, List.map_cons, List.map_nil]
 refine Ctr.bd aa func298 rfl ?_
 refine evl ?_
 refine scs ?_
 refine Fin.nt results298 [] ?_ ?_ ?_ <;> try trivial
theorem c230 (l : List TEv) (hl : l.length <= maxLen) (k s : Int) : Ctr prog 230 [.one (.dat (.sl 6 (l.map encTEv))), .one (.dat (.int .i64 k)), .one (.dat (.int .i64 s))] [] (.one (.dat (.int .i64 (placeOf l k s)))) [] := by
 refine Ctr.bd aa func230 rfl ?_
 refine evl ?_
 refine ck e297 (ol l hl e298 (fun x _ => c298 x k s)) rfl ?_
 refine evl ?_
 refine Fin.nt results230 [] ?_ ?_ ?_ <;> try trivial
theorem c207 (l : List TEv) (hl : l.length <= maxLen) (k s : Int) : Ctr prog 207 [.one (.dat (.sl 6 (l.map encTEv))), .one (.dat (.int .i64 k)), .one (.dat (.int .i64 s))] [] (.one (.dat (.int .i64 (placeOf l k s)))) [] := by
 refine Ctr.bd aa func207 rfl ?_
 refine evl ?_
 refine ab (fun zn zs => ∃ i : Nat, i <= l.length /\ zn = l.length - i /\ (∀ j (hj : j < l.length), j < i -> evIs k s l[j] = false) /\ zs = mkSt [(7, .one (.dat (.int .i64 i))), (0, .one (.dat (.sl 6 (l.map encTEv)))), (1, .one (.dat (.int .i64 k))), (2, .one (.dat (.int .i64 s)))] []) (l.length) _
  (Ent.wk []) ⟨0, by omega, by omega, by simp, rfl⟩ ?_
 rintro zn zs ⟨i, hi, rfl, hinv, rfl⟩ K hK
 rcases Nat.lt_or_ge i (l.length) with hlt | hge
 ·have hdi : decide ((i : Int) < ((l.length : Nat) : Int)) = true := decide_eq_true (by omega)
  have hw := ah hlt hl
  refine sv19 ?_
  refine scs ?_
  constructor <;> intro h
  ·apply hK
   refine evl ?_
   refine Fin.nt results207 [] ?_ ?_ ?_ <;> try trivial
   (refine rsl ?_; try exact .intro)
   exact (aK hlt h hinv).symm
  ·(apply hK
    exact ⟨l.length - (i + 1), _, by omega, Ent.wk [], i + 1, by omega, rfl, fun j hj hji => if e : j = i then by subst e; exact h else hinv j hj (by omega), rfl⟩)
 ·have hge' : l.length = i := by omega
  subst hge'
  have hdi : decide (((l.length : Nat) : Int) < ((l.length : Nat) : Int)) = false := by simp
  refine sv3 ?_
  apply hK
  refine evl ?_
  refine Fin.nt results207 [] ?_ ?_ ?_ <;> try trivial
  (refine rsl ?_; try exact .intro)
  exact (aH fun j hj => hinv j hj hj).symm
theorem c141 (l : List TEv) (hl : l.length <= maxLen) (a b : Int) : Ctr prog 141 [.one (.dat (.sl 6 (l.map encTEv))), .one (.dat (.int .i64 a)), .one (.dat (.int .i64 b))] [] (.one (.dat (.bool (inTime l a b)))) [] := by
 refine Ctr.bd aa func141 rfl ?_
 refine evl ?_
 refine ck e230 (c230 l hl 3 a) rfl ?_
 refine evl ?_
 refine ck e230 (c230 l hl 1 b) rfl ?_
 refine evl ?_
 refine scs ?_
 refine Fin.nt results141 [] ?_ ?_ ?_ <;> try trivial
 (refine rsl ?_; try exact .intro)
 simp only [inTime]
 cases decide (0 <= placeOf l 3 a) <;> cases decide (0 <= placeOf l 1 b) <;> rfl
theorem c124 (l : List TEv) (hl : l.length <= maxLen) (a b : Int) : Ctr prog 124 [.one (.dat (.sl 6 (l.map encTEv))), .one (.dat (.int .i64 a)), .one (.dat (.int .i64 b))] [] (.one (.dat (.bool (inTime l a b)))) [] := by
 refine Ctr.bd aa func124 rfl ?_
 refine evl ?_
 refine ck e207 (c207 l hl 3 a) rfl ?_
 refine evl ?_
 refine ck e207 (c207 l hl 1 b) rfl ?_
 refine evl ?_
 refine scs ?_
 refine Fin.nt results124 [] ?_ ?_ ?_ <;> try trivial
 (refine rsl ?_; try exact .intro)
 simp only [inTime]
 cases decide (0 <= placeOf l 3 a) <;> cases decide (0 <= placeOf l 1 b) <;> rfl
def told (L : List TEv) (s : Int) : Bool := match L.find? (evIs 3 s) with
 | some e => e.Code == 0
 | none => false
theorem eq {L : List TEv} {s : Int} (h : ∀ j (hj : j < L.length), evIs 3 s L[j] = false) : told L s = false := by
 unfold told
 have : L.find? (evIs 3 s) = none := by
  rw [List.find?_eq_none]
  intro x hx
  obtain ⟨j, hj, rfl⟩ := List.getElem_of_mem hx
  simp [h j hj]
 rw [this]
theorem told_some {L : List TEv} {s : Int} {i : Nat} (hi : i < L.length) (hp : evIs 3 s L[i] = true) (h : ∀ j (hj : j < L.length), j < i -> evIs 3 s L[j] = false) : told L s = (L[i].Code == 0) := by
 unfold told
 have : L.find? (evIs 3 s) = some L[i] := by
  rw [List.find?_eq_some_iff_getElem]
  refine ⟨hp, i, hi, rfl, fun j hj => ?_⟩
  simp [h j (by omega) hj]
 rw [this]
def orderGo (L : List TEv) (o : List Int) : List TEv -> List Int
 | [] => o
 | e :: r => orderGo L (bif (bif e.Kind != 2 then true else o.any fun x => x == e.Serial) then o else bif told L e.Serial then o ++ [e.Serial] else o) r
def order (L : List TEv) : List Int := orderGo L [] L
theorem ff (L : List TEv) : ∀ (r : List TEv) (o : List Int), (orderGo L o r).length <= o.length + r.length
 | [], o => by simp [orderGo]
 | e :: r, o => by
  unfold orderGo
  refine Nat.le_trans (ff L r _) ?_
  cases (bif e.Kind != 2 then true else o.any fun x => x == e.Serial) <;> cases told L e.Serial <;> simp <;> omega
theorem cW (L : List TEv) : (order L).length <= L.length := by have := ff L L []; simpa [order] using this
theorem c154 (l : List Int) (hl : l.length <= maxLen) (x : Int) : Ctr prog 154 [.one (.dat (.sl 1 (l.map encI))), .one (.dat (.int .i64 x))] [] (.one (.dat (.bool (l.any fun y => y == x)))) [] := by
 refine Ctr.bd aa func154 rfl ?_
 refine evl ?_
 refine ab (fun zn zs => ∃ i : Nat, i <= l.length /\ zn = l.length - i /\ ((l.any fun y => y == x) = ((l.drop i).any fun y => y == x)) /\ zs = mkSt [(5, .one (.dat (.int .i64 i))), (0, .one (.dat (.sl 1 (l.map encI)))), (1, .one (.dat (.int .i64 x)))] []) (l.length) _
  (Ent.wk []) ⟨0, by omega, by omega, by simp, rfl⟩ ?_
 rintro zn zs ⟨i, hi, rfl, hinv, rfl⟩ K hK
 rcases Nat.lt_or_ge i (l.length) with hlt | hge
 ·have hdi : decide ((i : Int) < ((l.length : Nat) : Int)) = true := decide_eq_true (by omega)
  have hw := ah hlt hl
  rw [List.drop_eq_getElem_cons hlt, List.any_cons] at hinv
  refine sv13 ?_
  refine scs ?_
  constructor <;> intro h
  ·apply hK
   refine evl ?_
   refine Fin.nt results154 [] ?_ ?_ ?_ <;> try trivial
   (refine rsl ?_; try exact .intro)
   rw [hinv, h, Bool.true_or]
  ·rw [h, Bool.false_or] at hinv
   (apply hK
    exact ⟨l.length - (i + 1), _, by omega, Ent.wk [], i + 1, by omega, rfl, hinv, rfl⟩)
 ·have hge' : l.length = i := by omega
  subst hge'
  have hdi : decide (((l.length : Nat) : Int) < ((l.length : Nat) : Int)) = false := by simp
  refine sv3 ?_
  apply hK
  refine evl ?_
  refine Fin.nt results154 [] ?_ ?_ ?_ <;> try trivial
  (refine rsl ?_; try exact .intro)
  rw [hinv]; simp
theorem c122 (l : List TEv) (hl : l.length <= 16777216) : Ctr prog 122 [.one (.dat (.sl 6 (l.map encTEv)))] [] (.one (.own 0)) [.vec 1 true ((order l).map encI)] := by
 have hl' : l.length <= maxLen := Nat.le_trans hl (by decide)
 refine Ctr.bd aa func122 rfl ?_
 refine evl ?_
 refine scs ?_
 refine ab (fun zn zs => ∃ (i : Nat) (o : List Int), i <= l.length /\ zn = l.length - i /\ (o.length <= i /\ order l = orderGo l o (l.drop i)) /\ zs = mkSt [(4, .one (.dat (.int .i64 i))), (3, .one (.own 0)), (0, .one (.dat (.sl 6 (l.map encTEv))))] [.vec 1 true (o.map encI)]) (l.length) _
  (Ent.wk [0]) ⟨0, [], by omega, by omega, ⟨by simp, rfl⟩, rfl⟩ ?_
 rintro zn zs ⟨i, o, hi, rfl, hinv, rfl⟩ K hK
 rcases Nat.lt_or_ge i (l.length) with hlt | hge
 ·have hdi : decide ((i : Int) < ((l.length : Nat) : Int)) = true := decide_eq_true (by omega)
  have hw := ah hlt hl'
  obtain ⟨ho, hinv⟩ := hinv
  have hmx : maxLen = 9223372036854775807 := rfl
  rw [List.drop_eq_getElem_cons hlt, orderGo] at hinv
  refine sv19 ?_
  refine scs ?_
  refine ck e154 (c154 o (by omega) l[i].Serial) rfl ?_
  refine sv19 ?_
  refine scs ?_
  constructor <;> intro h
  ·rw [h, cond_true] at hinv
   (apply hK
    exact ⟨l.length - (i + 1), _, by omega, Ent.wk [0], i + 1, o, by omega, rfl, ⟨by omega, hinv⟩, rfl⟩)
  ·rw [h, cond_false] at hinv
   refine scs ?_
   refine ck e207 (c207 l hl' 3 l[i].Serial) rfl ?_
   unfold placeOf
   rcases bi (evIs 3 l[i].Serial) l with ⟨e, hno⟩ | ⟨k, hkl, e, hp, hno⟩
   ·rw [eq hno, cond_false] at hinv
    rw [e]
    have h0 : 0 < l.length := by omega
    simp (maxSteps := 2000000) only [go_sem, seval, hdi, hw, getD_map hlt, encTEv, getD_map h0]
    (apply hK
     exact ⟨l.length - (i + 1), _, by omega, Ent.wk [0], i + 1, o, by omega, rfl, ⟨by omega, hinv⟩, rfl⟩)
   ·rw [told_some hkl hp hno] at hinv
    rw [e]
    have hk0 : decide (0 <= (k : Int)) = true := by simp
    simp (maxSteps := 2000000) only [go_sem, seval, hdi, hw, getD_map hlt, encTEv, hk0, getD_map hkl]
    refine scs ?_
    constructor <;> intro h
    ·rw [h, cond_true] at hinv
     refine scs ?_
     (apply hK
      exact ⟨l.length - (i + 1), _, by omega, Ent.wk [2], i + 1, o ++ [l[i].Serial], by omega, rfl, ⟨by simp; omega, hinv⟩, rfl⟩)
    ·rw [h, cond_false] at hinv
     (apply hK
      exact ⟨l.length - (i + 1), _, by omega, Ent.wk [0], i + 1, o, by omega, rfl, ⟨by omega, hinv⟩, rfl⟩)
 ·have hge' : l.length = i := by omega
  subst hge'
  have hdi : decide (((l.length : Nat) : Int) < ((l.length : Nat) : Int)) = false := by simp
  obtain ⟨_, hinv⟩ := hinv
  rw [List.drop_length, orderGo] at hinv
  refine sv3 ?_
  apply hK
  rw [hinv]
  refine evl ?_
  refine Fin.nt results122 [0] ?_ ?_ ?_ <;> try trivial
  all_goals exact entd
theorem c138 (l : List TEv) (hl : l.length <= 16777216) : Ctr prog 138 [.one (.dat (.sl 6 (l.map encTEv)))] [] (.one (.own 0)) [.vec 1 true ((order l).map encI)] := by
 have hl' : l.length <= maxLen := Nat.le_trans hl (by decide)
 refine Ctr.bd aa func138 rfl ?_
 refine evl ?_
 refine scs ?_
 refine ab (fun zn zs => ∃ (i : Nat) (o : List Int), i <= l.length /\ zn = l.length - i /\ (o.length <= i /\ order l = orderGo l o (l.drop i)) /\ zs = mkSt [(10, .one (.dat (.int .i64 i))), (9, .one (.dat (.int .i64 (l.length)))), (8, .one (.dat (.sl 6 (l.map encTEv)))), (3, .one (.own 0)), (0, .one (.dat (.sl 6 (l.map encTEv))))] [.vec 1 true (o.map encI)]) (l.length) _
  (Ent.wk [0]) ⟨0, [], by omega, by omega, ⟨by simp, rfl⟩, rfl⟩ ?_
 rintro zn zs ⟨i, o, hi, rfl, hinv, rfl⟩ K hK
 rcases Nat.lt_or_ge i (l.length) with hlt | hge
 ·have hdi : decide ((i : Int) < ((l.length : Nat) : Int)) = true := decide_eq_true (by omega)
  have hw := ah hlt hl'
  obtain ⟨ho, hinv⟩ := hinv
  have hmx : maxLen = 9223372036854775807 := rfl
  rw [List.drop_eq_getElem_cons hlt, orderGo] at hinv
  refine sv19 ?_
  refine scs ?_
  refine ck e233 (c233 o (by omega) l[i].Serial) rfl ?_
  refine sv19 ?_
  refine scs ?_
  constructor <;> intro h
  ·rw [h, cond_true] at hinv
   (apply hK
    exact ⟨l.length - (i + 1), _, by omega, Ent.wk [0], i + 1, o, by omega, rfl, ⟨by omega, hinv⟩, rfl⟩)
  ·rw [h, cond_false] at hinv
   refine ck e230 (c230 l hl' 3 l[i].Serial) rfl ?_
   unfold placeOf
   rcases bi (evIs 3 l[i].Serial) l with ⟨e, hno⟩ | ⟨k, hkl, e, hp, hno⟩
   ·rw [eq hno, cond_false] at hinv
    rw [e]
    have h0 : 0 < l.length := by omega
    simp (maxSteps := 2000000) only [go_sem, seval, hdi, hw, getD_map hlt, encTEv, getD_map h0]
    refine scs ?_
    (apply hK
     exact ⟨l.length - (i + 1), _, by omega, Ent.wk [0], i + 1, o, by omega, rfl, ⟨by omega, hinv⟩, rfl⟩)
   ·rw [told_some hkl hp hno] at hinv
    rw [e]
    have hk0 : decide (0 <= (k : Int)) = true := by simp
    simp (maxSteps := 2000000) only [go_sem, seval, hdi, hw, getD_map hlt, encTEv, hk0, getD_map hkl]
    refine scs ?_
    constructor <;> intro h
    ·rw [h, cond_true] at hinv
     refine scs ?_
     (apply hK
      exact ⟨l.length - (i + 1), _, by omega, Ent.wk [3], i + 1, o ++ [l[i].Serial], by omega, rfl, ⟨by simp; omega, hinv⟩, rfl⟩)
    ·rw [h, cond_false] at hinv
     (apply hK
      exact ⟨l.length - (i + 1), _, by omega, Ent.wk [0], i + 1, o, by omega, rfl, ⟨by omega, hinv⟩, rfl⟩)
 ·have hge' : l.length = i := by omega
  subst hge'
  have hdi : decide (((l.length : Nat) : Int) < ((l.length : Nat) : Int)) = false := by simp
  obtain ⟨_, hinv⟩ := hinv
  rw [List.drop_length, orderGo] at hinv
  refine sv3 ?_
  apply hK
  rw [hinv]
  refine evl ?_
  refine Fin.nt results138 [0] ?_ ?_ ?_ <;> try trivial
  all_goals exact entd
theorem iu {α : Type} {p : α -> Bool} {l : List α} {i k : Nat} (hk : k < i) (hl : k < l.length) (h : p l[k] = true) : (l.take i).any p = true :=
 List.any_eq_true.2 ⟨l[k], List.mem_take_iff_getElem.2 ⟨k, by omega, rfl⟩, h⟩
theorem gD {α : Type} {p : α -> Bool} {l : List α} {i : Nat} (h : ∀ j (hj : j < l.length), j < i -> p l[j] = false) : (l.take i).any p = false := by
 rw [List.any_eq_false]
 intro x hx
 obtain ⟨j, hj, rfl⟩ := List.mem_take_iff_getElem.1 hx
 simp [h j (by omega) (by omega)]
def strictGo (L : List TEv) (pre : List Int) : List Int -> Bool
 | [] => true
 | x :: r => bif pre.any (fun y => inTime L x y) then false else strictGo L (pre ++ [x]) r
def strict (L : List TEv) : Bool := strictGo L [] (order L)
theorem c140 (y : Int) (L : List TEv) (hl : L.length <= maxLen) (x : Int) : Ctr prog 140 [.one (.dat (.int .i64 y)), .one (.ptr (.ro 1 [[.sl 6 (L.map encTEv)]] 0 0)), .one (.ptr (.ro 1 [[.int .i64 x]] 0 0))] [] (.one (.dat (.bool (inTime L x y)))) [] := by
 refine Ctr.bd aa func140 rfl ?_
 refine evl ?_
 refine scs ?_
 refine ck e141 (c141 L hl x y) rfl ?_
 refine evl ?_
 refine Fin.nt results140 [] ?_ ?_ ?_ <;> try trivial
theorem c61 (l : List TEv) (hl : l.length <= 16777216) : Ctr prog 61 [.one (.dat (.sl 6 (l.map encTEv)))] [] (.one (.dat (.bool (strict l)))) [] := by
 have hl' : l.length <= maxLen := Nat.le_trans hl (by decide)
 have ho : (order l).length <= maxLen := Nat.le_trans (cW l) hl'
 refine Ctr.bd aa func61 rfl ?_
 refine evl ?_
 refine ck e138 (c138 l hl) rfl ?_
 refine sv18 ?_
 refine ab (fun zn zs => ∃ i : Nat, i <= (order l).length /\ zn = (order l).length - i /\ (strict l = strictGo l ((order l).take i) ((order l).drop i)) /\ zs = mkSt [(10, .one (.dat (.int .i64 i))), (9, .one (.dat (.int .i64 ((order l).length)))), (8, .one (.own 1)), (3, .one (.own 1)), (1, .one (.ptr (.own 0 0 0))), (0, .one (.dat (.sl 6 (l.map encTEv))))] [.box [.dat (.sl 6 (l.map encTEv))], .vec 1 true ((order l).map encI)]) ((order l).length) _
  (Ent.wk [0, 1]) ⟨0, by omega, by omega, rfl, rfl⟩ ?_
 rintro zn zs ⟨i, hi, rfl, hinv, rfl⟩ K hK
 rcases Nat.lt_or_ge i ((order l).length) with hlt | hge
 ·have hdi : decide ((i : Int) < (((order l).length : Nat) : Int)) = true := decide_eq_true (by omega)
  have hw := ah hlt ho
  rw [List.drop_eq_getElem_cons hlt, strictGo] at hinv
  refine sv13 ?_
  refine scs ?_
  have hcf := nX ((order l).take i) (by simp; omega) e140 (fun y _ => c140 y l hl' (order l)[i])
  rw [List.map_take] at hcf
  refine ae e139 hcf rfl ?_
  refine sv13 ?_
  constructor <;> intro h
  ·rw [h, cond_true] at hinv
   apply hK
   refine sv13 ?_
   refine Fin.nt results61 [] ?_ ?_ ?_ <;> try trivial
   (refine rsl ?_; try exact .intro)
   exact hinv.symm
  ·rw [h, cond_false, <- List.take_succ_eq_append_getElem hlt] at hinv
   (apply hK
    exact ⟨(order l).length - (i + 1), _, by omega, Ent.wk [0, 1], i + 1, by omega, rfl, hinv, rfl⟩)
 ·have hge' : (order l).length = i := by omega
  subst hge'
  have hdi : decide ((((order l).length : Nat) : Int) < (((order l).length : Nat) : Int)) = false := by simp
  rw [List.drop_length, strictGo] at hinv
  refine sv3 ?_
  apply hK
  refine evl ?_
  refine Fin.nt results61 [] ?_ ?_ ?_ <;> try trivial
  (refine rsl ?_; try exact .intro)
  exact hinv.symm
theorem c52 (l : List TEv) (hl : l.length <= 16777216) : Ctr prog 52 [.one (.dat (.sl 6 (l.map encTEv)))] [] (.one (.dat (.bool (strict l)))) [] := by
 have hl' : l.length <= maxLen := Nat.le_trans hl (by decide)
 have ho : (order l).length <= maxLen := Nat.le_trans (cW l) hl'
 refine Ctr.bd aa func52 rfl ?_
 refine evl ?_
 refine ck e122 (c122 l hl) rfl ?_
 refine evl ?_
 refine ab (fun zn zs => ∃ i : Nat, i <= (order l).length /\ zn = (order l).length - i /\ (strict l = strictGo l ((order l).take i) ((order l).drop i)) /\ zs = mkSt [(4, .one (.dat (.int .i64 i))), (3, .one (.own 0)), (0, .one (.dat (.sl 6 (l.map encTEv))))] [.vec 1 true ((order l).map encI)]) ((order l).length) _
  (Ent.wk [0]) ⟨0, by omega, by omega, rfl, rfl⟩ ?_
 rintro zn zs ⟨i, hi, rfl, hinv, rfl⟩ K hK
 rcases Nat.lt_or_ge i ((order l).length) with hlt | hge
 ·have hdi : decide ((i : Int) < (((order l).length : Nat) : Int)) = true := decide_eq_true (by omega)
  have hw := ah hlt ho
  rw [List.drop_eq_getElem_cons hlt, strictGo] at hinv
  refine sv13 ?_
  refine ab (fun zn zs => ∃ k : Nat, k <= i /\ zn = i - k /\ (∀ j (hj : j < (order l).length), j < k -> inTime l (order l)[i] (order l)[j] = false) /\ zs = mkSt [(5, .one (.dat (.int .i64 k))), (3, .one (.own 0)), (4, .one (.dat (.int .i64 i))), (0, .one (.dat (.sl 6 (l.map encTEv))))] [.vec 1 true ((order l).map encI)]) (i) _
   (Ent.wk [0]) ⟨0, by omega, by omega, by simp, rfl⟩ ?_
  rintro zn zs ⟨k, hi2, rfl, hinv2, rfl⟩ K2 hK2
  rcases Nat.lt_or_ge k (i) with hlt2 | hge2
  ·have hdi2 : decide ((k : Int) < ((i : Nat) : Int)) = true := decide_eq_true (by omega)
   have hw2 := ah hlt2 (Nat.le_trans hi ho)
   have hkl : k < (order l).length := by omega
   refine sv20 ?_
   refine scs ?_
   refine ck e124 (c124 l hl' (order l)[i] (order l)[k]) rfl ?_
   refine sv20 ?_
   constructor <;> intro h
   ·rw [iu hlt2 hkl h, cond_true] at hinv
    apply hK2
    refine sv20 ?_
    apply hK
    refine sv20 ?_
    refine Fin.nt results52 [] ?_ ?_ ?_ <;> try trivial
    (refine rsl ?_; try exact .intro)
    exact hinv.symm
   ·(apply hK2
     exact ⟨i - (k + 1), _, by omega, Ent.wk [0], k + 1, by omega, rfl, fun j hj hjk => if e : j = k then by subst e; exact h else hinv2 j hj (by omega), rfl⟩)
  ·have hge2' : i = k := by omega
   subst hge2'
   have hdi2 : decide (((i : Nat) : Int) < ((i : Nat) : Int)) = false := by simp
   rw [gD hinv2, cond_false, <- List.take_succ_eq_append_getElem hlt] at hinv
   simp (maxSteps := 2000000) only [go_sem, seval, hdi2, hw, getD_map hlt, encI]
   apply hK2
   simp (maxSteps := 2000000) only [go_sem, seval, hdi2, hw, getD_map hlt, encI]
   (apply hK
    exact ⟨(order l).length - (i + 1), _, by omega, Ent.wk [0], i + 1, by omega, rfl, hinv, rfl⟩)
 ·have hge' : (order l).length = i := by omega
  subst hge'
  have hdi : decide ((((order l).length : Nat) : Int) < (((order l).length : Nat) : Int)) = false := by simp
  rw [List.drop_length, strictGo] at hinv
  refine sv3 ?_
  apply hK
  refine evl ?_
  refine Fin.nt results52 [] ?_ ?_ ?_ <;> try trivial
  (refine rsl ?_; try exact .intro)
  exact hinv.symm
end Go.Proofs.YtkmmgklnoagedaaGreat.Mod
