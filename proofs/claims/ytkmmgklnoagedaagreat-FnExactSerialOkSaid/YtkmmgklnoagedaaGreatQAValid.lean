import Derived.Test.YtkmmgklnoagedaaGreatRows
import Derived.Test.YtkmmgklnoagedaaGreatQATy
import Derived.Test.YtkmmgklnoagedaaGreatQAbsTac
import Derived.Test.YtkmmgklnoagedaaGreatQAbsData
import Derived.Test.YtkmmgklnoagedaaGreatQAHist
import Derived.Test.YtkmmgklnoagedaaGreatQASame
import Derived.Test.YtkmmgklnoagedaaGreatQAStore
import Derived.WalkKit
import Derived.ProofKit
import Derived.OpenShut
/- Contracts: Valid. -/
namespace Go.Proofs.YtkmmgklnoagedaaGreat.Mod
open Go.Proofs.Tryz Go.Abs Go.Proofs.YtkmmgklnoagedaaGreat.Ty Go.ChangeShapes Go.WideShapes Go.ChangeAt Go.RowKit
set_option linter.unusedSimpArgs false
set_option linter.unusedVariables false
set_option maxHeartbeats 8000000
set_option maxRecDepth 100000
theorem take_split {α : Type} {l : List α} {i : Nat} {x : α} (h : i < l.length) (e : l[i] = x) : l = l.take i ++ x :: l.drop (i + 1) := by rw [<- e, <- List.drop_eq_getElem_cons h, List.take_append_drop]
theorem mj (z : Int) : ([D.int .i64 z] : List D) = encI z := rfl
theorem ibeq (a b : Int) : (a == b) = decide (a = b) := by by_cases h : a = b <;> simp [h]
def pinOk (e : Int) (p : Pin) : Bool := within p.Epoch 0 e && (within p.Seen 0 2 && (p.On || decide (p = ⟨false, 0, false, 0⟩)))
def clockOk (c : Clock) : Bool := within c.Epoch 0 100000 && decide ((c.Pins.length : Int) = 3) && c.Pins.all (pinOk c.Epoch)
theorem c305 (c : Clock) (p : Pin) : Ctr prog 305 [.agg ((encPin p).map .dat), .one (.ptr (.ro 2 [encClock c] 0 0))] [] (.one (.dat (.bool (!pinOk c.Epoch p)))) [] := by
 simp only [encPin, encClock, List.map_cons, List.map_nil]
 refine Ctr.bd aa func305 rfl ?_
 refine evl ?_
 refine scs ?_
 refine ck e151 (c151 ..) rfl ?_
 refine evl ?_
 refine scs ?_
 refine ck e151 (c151 ..) rfl ?_
 refine evl ?_
 refine scs ?_
 refine Fin.nt results305 [] ?_ ?_ ?_ <;> try trivial
 (refine rsl ?_; try exact .intro)
 simp only [pinOk, Pin.eq_iff, ibeq]
 cases within p.Epoch 0 c.Epoch <;> cases within p.Seen 0 2 <;> cases p.On <;> simp
theorem c237 (c : Clock) (hl : c.Pins.length <= maxLen) : Ctr prog 237 [.agg ((encClock c).map .dat)] [] (.one (.dat (.bool (clockOk c)))) [] := by
 have hcp := n4 c.Pins hl e305 (fun x _ => c305 c x)
 simp only [encClock, List.map_cons, List.map_nil] at hcp ⊢
 refine Ctr.bd aa func237 rfl ?_
 refine sv18 ?_
 refine scs ?_
 refine ck e151 (c151 ..) rfl ?_
 refine sv18 ?_
 refine scs ?_
 refine ck e304 (hcp) rfl ?_
 refine sv18 ?_
 refine scs ?_
 refine Fin.nt results237 [] ?_ ?_ ?_ <;> try trivial
 (refine rsl ?_; try exact .intro)
 simp only [clockOk, <- aG, ibeq]
 cases within c.Epoch 0 100000 <;> cases decide ((c.Pins.length : Int) = 3) <;> rfl
theorem c211 (c : Clock) (hl : c.Pins.length <= maxLen) : Ctr prog 211 [.agg ((encClock c).map .dat)] [] (.one (.dat (.bool (clockOk c)))) [] := by
 simp only [encClock, List.map_cons, List.map_nil]
 refine Ctr.bd aa func211 rfl ?_
 refine sv18 ?_
 refine scs ?_
 refine ck e126 (c126 ..) rfl ?_
 refine sv18 ?_
 refine scs ?_
 constructor <;> intro hq
 ·refine Fin.nt results211 [] ?_ ?_ ?_ <;> try trivial
  (refine rsl ?_; try exact .intro)
  simp only [clockOk]
  cases h1 : within c.Epoch 0 100000 <;> cases h2 : decide ((c.Pins.length : Int) = 3) <;> simp_all
 have h3 : within c.Epoch 0 100000 = true /\ c.Pins.length = 3 := by
  cases h1 : within c.Epoch 0 100000 <;> cases h2 : decide ((c.Pins.length : Int) = 3) <;> simp_all <;> omega
 have hck : clockOk c = c.Pins.all (pinOk c.Epoch) := by simp only [clockOk, h3.1, h3.2]; rfl
 rw [hck]
 clear hq
 refine ab (fun zn zs => ∃ i : Nat, i <= 3 /\ zn = 3 - i /\ (c.Pins.all (pinOk c.Epoch) = (c.Pins.drop i).all (pinOk c.Epoch)) /\ zs = mkSt [(3, .one (.dat (.int .i64 i))), (1, .one (.ptr (.own 0 0 0)))] [.box [.dat (.int .i64 c.Epoch), .dat (.sl 4 (c.Pins.map encPin))]]) (3) _
  (Ent.wk [0]) ⟨0, by omega, by omega, rfl, rfl⟩ ?_
 rintro zn zs ⟨i, hi, rfl, hinv, rfl⟩ K hK
 rcases Nat.lt_or_ge i (3) with hlt | hge
 ·have hdi : decide ((i : Int) < ((3 : Nat) : Int)) = true := decide_eq_true (by omega)
  have hw := ah hlt (show 3 <= maxLen by decide)
  have hd3 : decide ((i : Int) < 3) = true := decide_eq_true (by omega)
  have hgi : i < c.Pins.length := by omega
  rw [List.drop_eq_getElem_cons hgi, List.all_cons] at hinv
  obtain ⟨p, hp⟩ : ∃ p, c.Pins[i] = p := ⟨_, rfl⟩
  rw [hp] at hinv
  refine sv41 ?_
  refine scs ?_
  refine ck e126 (c126 ..) rfl ?_
  refine sv41 ?_
  refine scs ?_
  refine ck e126 (c126 ..) rfl ?_
  refine sv41 ?_
  refine scs ?_
  constructor <;> intro hq
  ·have hp0 : pinOk c.Epoch p = false := by
    simp only [pinOk, Pin.eq_iff]
    simp only [ibeq] at hq
    revert hq
    cases within p.Epoch 0 c.Epoch <;> cases within p.Seen 0 2 <;> cases p.On <;> simp
    all_goals (try (intros; simp_all; done))
   rw [hp0, Bool.false_and] at hinv
   apply hK
   refine sv41 ?_
   refine Fin.nt results211 [] ?_ ?_ ?_ <;> try trivial
   (refine rsl ?_; try exact .intro)
   exact hinv.symm
  ·have hp0 : pinOk c.Epoch p = true := by
    simp only [pinOk, Pin.eq_iff]
    simp only [ibeq] at hq
    revert hq
    cases within p.Epoch 0 c.Epoch <;> cases within p.Seen 0 2 <;> cases p.On <;> simp
    all_goals (try (intros; simp_all; done))
   rw [hp0, Bool.true_and] at hinv
   (apply hK
    exact ⟨3 - (i + 1), _, by omega, Ent.wk [0], i + 1, by omega, rfl, hinv, rfl⟩)
 ·have hge' : 3 = i := by omega
  subst hge'
  have hdi : decide (((3 : Nat) : Int) < ((3 : Nat) : Int)) = false := by simp
  have hd3 : decide (((3 : Nat) : Int) < 3) = false := rfl
  rw [List.drop_of_length_le (by omega), List.all_nil] at hinv
  refine sv33 ?_
  apply hK
  refine evl ?_
  refine Fin.nt results211 [] ?_ ?_ ?_ <;> try trivial
  (refine rsl ?_; try exact .intro)
  exact hinv.symm
def rowOk (r : LRow) : Bool := handleOk r.Handle && within r.Epoch 0 100000
def rslot (r : LRow) : Int := r.Handle % 32
def goodRows (l : List LRow) : Bool := l.all rowOk && decide (l.map rslot).Nodup
def limboOk (l : List LList) : Bool := decide ((l.length : Int) = 3) && decide (((rowsOf l).length : Int) <= 24) && goodRows (rowsOf l)
theorem cL (l : List LRow) : goodRows l = true ↔ (∀ x ∈ l, rowOk x = true) /\ (l.map rslot).Nodup := by simp [goodRows]
theorem dP {q : List LRow} {x : LRow} (h : goodRows q = true) (hw : rowOk x = true) (hx : rslot x ∉ q.map rslot) : goodRows (q ++ [x]) = true := by
 obtain ⟨h1, h2⟩ := (cL _).1 h
 refine (cL _).2 ⟨fun y hy => ?_, ?_⟩
 ·rcases List.mem_append.1 hy with hy | hy
  ·exact h1 y hy
  ·rw [List.mem_singleton.1 hy]; exact hw
 ·rw [List.map_append]
  exact List.nodup_append.2 ⟨h2, by simp, fun a ha b hb e => hx (by rw [List.map_cons, List.map_nil, List.mem_singleton] at hb; rw [hb] at e; exact e ▸ ha)⟩
theorem cM {a b : List LRow} {x : LRow} (h : rowOk x = false \/ rslot x ∈ a.map rslot) : goodRows (a ++ x :: b) = false := by
 rw [Bool.eq_false_iff]
 intro hg
 obtain ⟨h1, h2⟩ := (cL _).1 hg
 rcases h with h | h
 ·rw [h1 x (by simp)] at h; cases h
 ·rw [List.map_append, List.map_cons] at h2
  exact (List.nodup_append.1 h2).2.2 _ h _ (by simp) rfl
theorem de {l : List LList} {a b : List LRow} {x : LRow} (hs : rowsOf l = a ++ x :: b) (h : rowOk x = false \/ rslot x ∈ a.map rslot) : limboOk l = false := by
 rw [limboOk, hs, cM h, Bool.and_false]
theorem jq {l : List LList} (h3 : l.length = 3) (hg : goodRows (rowsOf l) = true) : limboOk l = decide (((rowsOf l).length : Int) <= 24) := by
 rw [limboOk, hg, h3, Bool.and_true]; rfl
theorem nj {r : LRow} (h : rowOk r = true) : within (rslot r) 0 23 = true /\ r.Handle.tmod 32 = rslot r := by
 simp only [rowOk, Bool.and_eq_true] at h
 have hb := (bA _).1 h.1
 refine ⟨?_, (cv h.1).1⟩
 show decide (0 <= r.Handle % 32 /\ r.Handle % 32 <= 23) = true
 exact decide_eq_true (by omega)
theorem c307 (l : List LList) (hl : l.length <= 1048576) (hr : (rowsOf l).length <= 1048576) : Ctr prog 307 [.one (.dat (.sl 1 (l.map encLList)))] [] (.one (.dat (.int .i64 (rowsOf l).length))) [] := by
 have hmx : maxLen = 9223372036854775807 := rfl
 refine Ctr.bd aa func307 rfl ?_
 refine evl ?_
 refine scs ?_
 refine ab (fun zn zs => ∃ (i : Nat) (z : Nat), i <= l.length /\ zn = l.length - i /\ ((rowsOf l).length = z + (rowsOf (l.drop i)).length) /\ zs = mkSt [(8, .one (.dat (.int .i64 i))), (7, .one (.dat (.int .i64 (l.length)))), (6, .one (.dat (.sl 1 (l.map encLList)))), (3, .one (.dat (.int .i64 (z : Int)))), (0, .one (.dat (.sl 1 (l.map encLList))))] []) (l.length) _
  (Ent.wk []) ⟨0, 0, by omega, by omega, by rw [List.drop_zero, Nat.zero_add], rfl⟩ ?_
 rintro zn zs ⟨i, z, hi, rfl, hinv, rfl⟩ K hK
 rcases Nat.lt_or_ge i (l.length) with hlt | hge
 ·have hdi : decide ((i : Int) < ((l.length : Nat) : Int)) = true := decide_eq_true (by omega)
  have hw := ah hlt (show l.length <= maxLen by omega)
  rw [rowsOf_drop hlt, List.length_append] at hinv
  have hw2 : IntKind.i64.wrap ((z : Int) + (l[i].Rows.length : Int)) = ((z + l[i].Rows.length : Nat) : Int) := by rw [wrap_id] <;> omega
  simp (maxSteps := 2000000) only [go_sem, seval, hdi, hw, getD_map hlt, encLList, hw2]
  refine scs ?_
  (apply hK
   exact ⟨l.length - (i + 1), _, by omega, Ent.wk [], i + 1, (z + l[i].Rows.length), by omega, rfl, by omega, rfl⟩)
 ·have hge' : l.length = i := by omega
  subst hge'
  have hdi : decide (((l.length : Nat) : Int) < ((l.length : Nat) : Int)) = false := by simp
  have hz' : (rowsOf l).length = z := by rw [List.drop_length] at hinv; simpa [rowsOf] using hinv
  clear hinv
  refine sv3 ?_
  apply hK
  refine evl ?_
  refine Fin.nt results307 [] ?_ ?_ ?_ <;> try trivial
  (refine rsl ?_; try exact .intro)
  rw [hz']
theorem c238 (l : List LList) (hl : l.length <= 1048576) (hr : (rowsOf l).length <= 1048576) : Ctr prog 238 [.one (.dat (.sl 1 (l.map encLList)))] [] (.one (.dat (.bool (limboOk l)))) [] := by
 have hmx : maxLen = 9223372036854775807 := rfl
 refine Ctr.bd aa func238 rfl ?_
 refine sv18 ?_
 refine scs ?_
 constructor <;> intro hq
 ·refine Fin.nt results238 [] ?_ ?_ ?_ <;> try trivial
  (refine rsl ?_; try exact .intro)
  simp only [limboOk]
  cases h2 : decide ((l.length : Int) = 3) <;> simp_all
 have h3 : l.length = 3 := by
  cases h2 : decide ((l.length : Int) = 3) <;> simp_all <;> omega
 clear hq
 refine ab (fun zn zs => ∃ (i : Nat) (q0 : List LRow), i <= l.length /\ zn = l.length - i /\ (rowsOf l = q0 ++ rowsOf (l.drop i) /\ goodRows q0 = true) /\ zs = mkSt [(14, .one (.dat (.int .i64 i))), (13, .one (.dat (.int .i64 (l.length)))), (12, .one (.dat (.sl 1 (l.map encLList)))), (3, .one (.ptr (.own 0 0 0))), (0, .one (.dat (.sl 1 (l.map encLList))))] [.box (metL (q0.map rslot))]) (l.length) _
  (Ent.wk [0]) ⟨0, [], by omega, by omega, ⟨rfl, rfl⟩, rfl⟩ ?_
 rintro zn zs ⟨i, q0, hi, rfl, hinv, rfl⟩ K hK
 rcases Nat.lt_or_ge i (l.length) with hlt | hge
 ·have hdi : decide ((i : Int) < ((l.length : Nat) : Int)) = true := decide_eq_true (by omega)
  have hw := ah hlt (show l.length <= maxLen by omega)
  obtain ⟨hv1, hv2⟩ := hinv
  rw [rowsOf_drop hlt] at hv1
  simp (maxSteps := 2000000) only [go_sem, seval, hdi, hw, getD_map hlt, encLList]
  refine scs ?_
  have hsl : l[i].Rows.length <= 1048576 := by
   have := congrArg List.length hv1
   simp only [List.length_append] at this
   omega
  generalize hsd : l[i].Rows = sl at hv1 hsl ⊢
  refine ab (fun zn zs => ∃ (k : Nat) (q : List LRow), k <= sl.length /\ zn = sl.length - k /\ (q0 ++ sl = q ++ sl.drop k /\ goodRows q = true) /\ zs = mkSt [(21, .one (.dat (.int .i64 k))), (20, .one (.dat (.int .i64 (sl.length)))), (19, .one (.dat (.sl 2 (sl.map encLRow)))), (3, .one (.ptr (.own 0 0 0))), (12, .one (.dat (.sl 1 (l.map encLList)))), (13, .one (.dat (.int .i64 (l.length : Nat)))), (14, .one (.dat (.int .i64 i))), (0, .one (.dat (.sl 1 (l.map encLList))))] [.box (metL (q.map rslot))]) (sl.length) _
   (Ent.wk [0]) ⟨0, q0, by omega, by omega, ⟨rfl, hv2⟩, rfl⟩ ?_
  rintro zn zs ⟨k, q, hi2, rfl, hinv2, rfl⟩ K2 hK2
  rcases Nat.lt_or_ge k (sl.length) with hlt2 | hge2
  ·have hdi2 : decide ((k : Int) < ((sl.length : Nat) : Int)) = true := decide_eq_true (by omega)
   have hw2 := ah hlt2 (show sl.length <= maxLen by omega)
   obtain ⟨hu1, hu2⟩ := hinv2
   obtain ⟨r, hrk⟩ : ∃ r, sl[k] = r := ⟨_, rfl⟩
   have hx1 : q0 ++ sl = q ++ r :: sl.drop (k + 1) := by rw [hu1, List.drop_eq_getElem_cons hlt2, hrk]
   have hx2 : rowsOf l = q ++ r :: (sl.drop (k + 1) ++ rowsOf (l.drop (i + 1))) := by rw [hv1, <- List.append_assoc, hx1]; simp only [List.append_assoc, List.cons_append]
   cases hrw : rowOk r with
   | false =>
    obtain ⟨bo, hbo⟩ := jn (q.map rslot) ((r.Handle.tmod 32).toNat * 1)
    refine sv42 ?_
    refine scs ?_
    refine ck e306 (c306 r.Handle) rfl ?_
    refine sv42 ?_
    refine scs ?_
    refine ck e151 (c151 r.Epoch 0 100000) rfl ?_
    have hco : (!handleOk r.Handle || !within r.Epoch 0 100000) = true := by
     revert hrw; rw [rowOk]; cases handleOk r.Handle <;> cases within r.Epoch 0 100000 <;> simp
    cases hh1 : handleOk r.Handle
    ·simp (maxSteps := 2000000) only [go_sem, seval, hdi2, hw2, getD_map hlt2, hrk, encLRow, hbo, hh1]
     refine scs ?_
     apply hK2
     refine sv42 ?_
     apply hK
     refine sv42 ?_
     refine Fin.nt results238 [] ?_ ?_ ?_ <;> try trivial
     (refine rsl ?_; try exact .intro)
     exact (de hx2 (.inl hrw)).symm
    ·have hh2 : within r.Epoch 0 100000 = false := by rw [hh1] at hco; simpa using hco
     simp (maxSteps := 2000000) only [go_sem, seval, hdi2, hw2, getD_map hlt2, hrk, encLRow, hbo, hh1, hh2]
     refine scs ?_
     apply hK2
     refine sv42 ?_
     apply hK
     refine sv42 ?_
     refine Fin.nt results238 [] ?_ ?_ ?_ <;> try trivial
     (refine rsl ?_; try exact .intro)
     exact (de hx2 (.inl hrw)).symm
   | true =>
    obtain ⟨hwi, htm⟩ := nj hrw
    have hh : handleOk r.Handle = true /\ within r.Epoch 0 100000 = true := by simpa [rowOk] using hrw
    have hmg := fun d => jm (seen := q.map rslot) (d := d) hwi
    have hms := jo (seen := q.map rslot) hwi
    simp only [splice, List.length_cons, List.length_nil, Nat.zero_add] at hms
    have hwb : 0 <= rslot r /\ rslot r <= 23 := by simpa [within] using hwi
    have hwc : (rslot r).toNat * 1 < 24 := by omega
    refine sv43 ?_
    refine scs ?_
    refine ck e306 (c306 r.Handle) rfl ?_
    refine sv43 ?_
    refine scs ?_
    refine ck e151 (c151 r.Epoch 0 100000) rfl ?_
    simp (maxSteps := 2000000) only [go_sem, seval, hdi2, hw2, getD_map hlt2, hrk, encLRow, htm, hh.1, hh.2, hmg, hms, metL_len]
    refine scs ?_
    constructor <;> intro hq3
    ·apply hK2
     refine sv43 ?_
     apply hK
     refine sv43 ?_
     refine Fin.nt results238 [] ?_ ?_ ?_ <;> try trivial
     (refine rsl ?_; try exact .intro)
     exact (de hx2 (.inr (by simpa using hq3))).symm
    ·refine scs ?_
     have hma : (q ++ [r]).map rslot = q.map rslot ++ [rslot r] := by simp
     rw [<- hma]
     (apply hK2
      exact ⟨sl.length - (k + 1), _, by omega, Ent.wk [0], k + 1, (q ++ [r]), by omega, rfl, ⟨by rw [hx1]; simp only [List.append_assoc, List.cons_append, List.nil_append], dP hu2 hrw (by simpa using hq3)⟩, rfl⟩)
  ·have hge2' : sl.length = k := by omega
   subst hge2'
   have hdi2 : decide (((sl.length : Nat) : Int) < ((sl.length : Nat) : Int)) = false := by simp
   have hu3 : q0 ++ sl = q := by rw [hinv2.1, List.drop_length, List.append_nil]
   refine sv30 ?_
   apply hK2
   refine sv2 ?_
   (apply hK
    exact ⟨l.length - (i + 1), _, by omega, Ent.wk [0], i + 1, q, by omega, rfl, ⟨by rw [hv1, <- List.append_assoc, hu3], hinv2.2⟩, rfl⟩)
 ·have hge' : l.length = i := by omega
  subst hge'
  have hdi : decide (((l.length : Nat) : Int) < ((l.length : Nat) : Int)) = false := by simp
  have hs' : rowsOf l = q0 := by rw [hinv.1, List.drop_length]; simp [rowsOf]
  refine sv3 ?_
  apply hK
  refine evl ?_
  refine scs ?_
  refine ck e307 (c307 l hl hr) rfl ?_
  refine evl ?_
  refine scs ?_
  refine Fin.nt results238 [] ?_ ?_ ?_ <;> try trivial
  (refine rsl ?_; try exact .intro)
  exact (jq h3 (by rw [hs']; exact hinv.2)).symm
theorem c212 (l : List LList) (hl : l.length <= 1048576) (hr : (rowsOf l).length <= 1048576) : Ctr prog 212 [.one (.dat (.sl 1 (l.map encLList)))] [] (.one (.dat (.bool (limboOk l)))) [] := by
 have hmx : maxLen = 9223372036854775807 := rfl
 have hca := c214 l hl hr
 generalize hR : rowsOf l = R at hr hca
 refine Ctr.bd aa func212 rfl ?_
 refine sv18 ?_
 refine scs ?_
 refine ck e214 (hca) rfl ?_
 refine sv18 ?_
 refine scs ?_
 constructor <;> intro hq
 ·refine Fin.nt results212 [] ?_ ?_ ?_ <;> try trivial
  (refine rsl ?_; try exact .intro)
  simp only [limboOk, hR]
  cases h1 : decide ((R.length : Int) <= 24) <;> cases h2 : decide ((l.length : Int) = 3) <;> simp_all <;> omega
 have h3 : l.length = 3 /\ R.length <= 24 := by
  cases h2 : decide ((l.length : Int) = 3) <;> simp_all <;> omega
 clear hq
 have hlo : limboOk l = goodRows R := by
  rw [limboOk, hR, h3.1, decide_eq_true (by omega : (R.length : Int) <= 24)]; rfl
 rw [hlo]
 refine scs ?_
 refine ab (fun zn zs => ∃ (i : Nat) (q : List LRow), i <= R.length /\ zn = R.length - i /\ (q = R.take i /\ goodRows q = true) /\ zs = mkSt [(5, .one (.dat (.int .i64 i))), (3, .one (.own 0)), (4, .one (.own 1)), (0, .one (.dat (.sl 1 (l.map encLList))))] [.vec 2 true (R.map encLRow), .vec 1 true ((q.map rslot).map encI)]) (R.length) _
  (Ent.wk [0, 1]) ⟨0, [], by omega, by omega, ⟨rfl, rfl⟩, rfl⟩ ?_
 rintro zn zs ⟨i, q, hi, rfl, hinv, rfl⟩ K hK
 rcases Nat.lt_or_ge i (R.length) with hlt | hge
 ·have hdi : decide ((i : Int) < ((R.length : Nat) : Int)) = true := decide_eq_true (by omega)
  have hw := ah hlt (show R.length <= maxLen by omega)
  obtain ⟨hqe, hqg⟩ := hinv
  obtain ⟨r, hri⟩ : ∃ r, R[i] = r := ⟨_, rfl⟩
  have hql : q.length <= 24 := by rw [hqe, List.length_take]; omega
  have htk : R.take (i + 1) = R.take i ++ [r] := by rw [List.take_succ_eq_append_getElem hlt, hri]
  refine sv44 ?_
  refine scs ?_
  refine ck e255 (c255 r.Handle) rfl ?_
  refine sv44 ?_
  refine scs ?_
  refine ck e126 (c126 r.Epoch 0 100000) rfl ?_
  refine sv44 ?_
  refine scs ?_
  refine ck e154 (c154 (q.map rslot) (by rw [List.length_map]; omega) (handleSlot r.Handle)) rfl ?_
  refine sv44 ?_
  refine scs ?_
  cases hrw : rowOk r with
  | false =>
   constructor <;> intro hq3
   ·apply hK
    refine sv44 ?_
    refine Fin.nt results212 [] ?_ ?_ ?_ <;> try trivial
    (refine rsl ?_; try exact .intro)
    rw [take_split hlt hri, cM (.inl hrw)]
   ·exfalso
    revert hq3 hrw
    rw [rowOk, handleSlot]
    cases hh : handleOk r.Handle <;> cases within r.Epoch 0 100000 <;> simp
  | true =>
   have hh : handleOk r.Handle = true /\ within r.Epoch 0 100000 = true := by simpa [rowOk] using hrw
   have hsl : handleSlot r.Handle = rslot r := by rw [handleSlot, if_pos hh.1]; rfl
   have hpo : ¬ rslot r < 0 := by rw [rslot]; omega
   constructor <;> intro hq3
   ·apply hK
    refine sv44 ?_
    refine Fin.nt results212 [] ?_ ?_ ?_ <;> try trivial
    (refine rsl ?_; try exact .intro)
    rw [take_split hlt hri, cM (.inr ?_)]
    rw [<- hqe]
    rw [hsl, decide_eq_false hpo, hh.2] at hq3
    simpa using hq3
   ·have hni : rslot r ∉ q.map rslot := fun hm => by
     rw [hsl, decide_eq_false hpo, hh.2] at hq3
     simp only [Bool.not_true, cond_false] at hq3
     rw [List.any_eq_true.2 ⟨_, hm, by simp⟩] at hq3
     cases hq3
    rw [hsl]
    refine scs ?_
    simp only [mj]
    (apply hK
     exact ⟨R.length - (i + 1), _, by omega, Ent.wk [0, 3], i + 1, (q ++ [r]), by omega, rfl, ⟨by rw [htk, hqe], dP hqg hrw hni⟩, rfl⟩)
 ·have hge' : R.length = i := by omega
  subst hge'
  have hdi : decide (((R.length : Nat) : Int) < ((R.length : Nat) : Int)) = false := by simp
  rw [List.take_length] at hinv
  obtain ⟨hqe, hqg⟩ := hinv
  refine sv3 ?_
  apply hK
  refine evl ?_
  refine Fin.nt results212 [] ?_ ?_ ?_ <;> try trivial
  (refine rsl ?_; try exact .intro)
  rw [<- hqe]; exact hqg.symm
def hazOk (z : List Int) : Bool := decide ((z.length : Int) = 3) && z.all isLink
theorem c308 (x : Int) : Ctr prog 308 [.one (.dat (.int .i64 x))] [] (.one (.dat (.bool (!isLink x)))) [] := by
 refine Ctr.bd aa func308 rfl ?_
 refine evl ?_
 refine scs ?_
 refine ck e246 (c246 x) rfl ?_
 refine evl ?_
 refine Fin.nt results308 [] ?_ ?_ ?_ <;> try trivial
theorem c239 (z : List Int) (hl : z.length <= maxLen) : Ctr prog 239 [.one (.dat (.sl 1 (z.map encI)))] [] (.one (.dat (.bool (hazOk z)))) [] := by
 refine Ctr.bd aa func239 rfl ?_
 refine sv18 ?_
 refine scs ?_
 refine ck e139 (dk z hl e308 (fun x _ => c308 x)) rfl ?_
 refine sv18 ?_
 refine scs ?_
 refine Fin.nt results239 [] ?_ ?_ ?_ <;> try trivial
 (refine rsl ?_; try exact .intro)
 simp only [hazOk, <- aG, ibeq]
 cases decide ((z.length : Int) = 3) <;> rfl
theorem c213 (z : List Int) (hl : z.length <= maxLen) : Ctr prog 213 [.one (.dat (.sl 1 (z.map encI)))] [] (.one (.dat (.bool (hazOk z)))) [] := by
 refine Ctr.bd aa func213 rfl ?_
 refine sv18 ?_
 refine scs ?_
 refine ab (fun zn zs => ∃ i : Nat, i <= z.length /\ zn = z.length - i /\ (z.all isLink = (z.drop i).all isLink) /\ zs = mkSt [(3, .one (.dat (.int .i64 i))), (0, .one (.dat (.sl 1 (z.map encI))))] []) (z.length) _
  (Ent.wk []) ⟨0, by omega, by omega, rfl, rfl⟩ ?_
 rintro zn zs ⟨i, hi, rfl, hinv, rfl⟩ K hK
 rcases Nat.lt_or_ge i (z.length) with hlt | hge
 ·have hdi : decide ((i : Int) < ((z.length : Nat) : Int)) = true := decide_eq_true (by omega)
  have hw := ah hlt hl
  rw [List.drop_eq_getElem_cons hlt, List.all_cons] at hinv
  refine sv13 ?_
  refine scs ?_
  refine ck e253 (c253 z[i]) rfl ?_
  refine sv13 ?_
  refine scs ?_
  constructor <;> intro hq
  ·have hp0 : isLink z[i] = false := by
    revert hq; simp only [isLink]
    by_cases h0 : z[i] = 0 <;> cases handleOk z[i] <;> simp [h0]
   rw [hp0, Bool.false_and] at hinv
   apply hK
   refine sv13 ?_
   refine Fin.nt results213 [] ?_ ?_ ?_ <;> try trivial
   (refine rsl ?_; try exact .intro)
   rw [hazOk, hinv, Bool.and_false]
  ·have hp0 : isLink z[i] = true := by
    revert hq; simp only [isLink]
    by_cases h0 : z[i] = 0 <;> cases handleOk z[i] <;> simp [h0]
   rw [hp0, Bool.true_and] at hinv
   (apply hK
    exact ⟨z.length - (i + 1), _, by omega, Ent.wk [], i + 1, by omega, rfl, hinv, rfl⟩)
 ·have hge' : z.length = i := by omega
  subst hge'
  have hdi : decide (((z.length : Nat) : Int) < ((z.length : Nat) : Int)) = false := by simp
  rw [List.drop_length, List.all_nil] at hinv
  refine sv3 ?_
  apply hK
  refine sv18 ?_
  refine Fin.nt results213 [] ?_ ?_ ?_ <;> try trivial
  (refine rsl ?_; try exact .intro)
  rw [hazOk, hinv, Bool.and_true, ibeq]
def rowLive (b : Base) (r : LRow) : Bool := isLiveM b.Mem r.Handle && decide (r.Epoch <= b.Clock.Epoch)
def baseOk (b : Base) : Bool := memOk b.Mem && clockOk b.Clock && limboOk b.Limbo && hazOk b.Haz && (rowsOf b.Limbo).all (rowLive b)
theorem dE {b : Base} (hz : sizBase b <= 1048576) : sizMem b.Mem <= 1048576 /\ b.Clock.Pins.length <= 1048576 /\ b.Limbo.length <= 1048576 /\ (rowsOf b.Limbo).length <= 1048576 /\ b.Haz.length <= 1048576 /\ ∀ x ∈ b.Limbo, x.Rows.length <= 1048576 := by
 have hs : ∀ x ∈ b.Limbo, x.Rows.length <= (b.Limbo.map sizLList).sum := fun x hx => aX sizLList hx
 rw [rowsOf_len]
 unfold sizBase sizLListS sizClock at hz
 exact ⟨by omega, by omega, by omega, by omega, by omega, fun x hx => by have := hs x hx; omega⟩
theorem lm (l : List LList) (p : LRow -> Bool) : (rowsOf l).all p = l.all fun x => x.Rows.all p := by
 simp only [rowsOf, List.all_flatten, List.all_map]; rfl
theorem iv {α : Type} (l : List α) (p q : α -> Bool) (h : ∀ x ∈ l, p x = !q x) : (!l.any p) = l.all q := by
 induction l with
 | nil => rfl
 | cons a l ih => rw [List.any_cons, List.all_cons, Bool.not_or, ih fun x hx => h x (List.mem_cons_of_mem _ hx), h a (by simp), Bool.not_not]
theorem cO {b : Base} (h : baseOk b = true) : memOk b.Mem = true /\ clockOk b.Clock = true /\ limboOk b.Limbo = true /\ hazOk b.Haz = true /\ shapedM b.Mem.Heap = true := by
 simp only [baseOk, Bool.and_eq_true] at h
 exact ⟨h.1.1.1.1, h.1.1.1.2, h.1.1.2, h.1.2, (bW h.1.1.1.1).2.2⟩
theorem c243 (b : Base) (hz : sizMem b.Mem <= 1048576) (hs : shapedM b.Mem.Heap = true) (r : LRow) : Ctr prog 243 [.agg ((encLRow r).map .dat), .one (.ptr (.ro 8 [encBase b] 0 0))] [] (.one (.dat (.bool (!rowLive b r)))) [] := by
 have hcl := c244 b.Mem hz hs r.Handle
 simp only [encMem, List.map_cons, List.map_nil] at hcl
 simp only [encLRow, encBase, List.map_cons, List.map_nil]
 refine Ctr.bd aa func243 rfl ?_
 refine evl ?_
 refine scs ?_
 refine ck e244 (hcl) rfl ?_
 refine evl ?_
 refine scs ?_
 refine Fin.nt results243 [] ?_ ?_ ?_ <;> try trivial
 (refine rsl ?_; try exact .intro)
 rw [rowLive]
 have : decide (b.Clock.Epoch < r.Epoch) = !decide (r.Epoch <= b.Clock.Epoch) := by
  by_cases h : r.Epoch <= b.Clock.Epoch
  ·simp [h]
  ·simp [h]; omega
 rw [this]
 cases isLiveM b.Mem r.Handle <;> rfl
theorem c241 (b : Base) (hz : sizMem b.Mem <= 1048576) (hs : shapedM b.Mem.Heap = true) (l : LList) (hl : l.Rows.length <= maxLen) : Ctr prog 241 [.agg ((encLList l).map .dat), .one (.ptr (.ro 8 [encBase b] 0 0))] [] (.one (.dat (.bool (l.Rows.any fun r => !rowLive b r)))) [] := by
 have hcc := n6 l.Rows hl e243 (fun x _ => c243 b hz hs x)
 simp only [encBase] at hcc
 simp only [encLList, encBase, List.map_cons, List.map_nil]
 refine Ctr.bd aa func241 rfl ?_
 refine evl ?_
 refine scs ?_
 refine ck e242 (hcc) rfl ?_
 refine evl ?_
 refine Fin.nt results241 [] ?_ ?_ ?_ <;> try trivial
theorem c145 (b : Base) (hz : sizBase b <= 1048576) : Ctr prog 145 [.agg ((encBase b).map .dat)] [] (.one (.dat (.bool (baseOk b)))) [] := by
 have hmx : maxLen = 9223372036854775807 := rfl
 obtain ⟨z1, z2, z3, z4, z5, z6⟩ := dE hz
 have hcm := c236 b.Mem z1
 have hcc := c237 b.Clock (by omega)
 have hcf := fun hs => n8 b.Limbo (by omega) e241 (fun x hx => c241 b z1 hs x (by have := z6 x hx; omega))
 simp only [encMem, encClock, encBase, List.map_cons, List.map_nil] at hcm hcc hcf ⊢
 refine Ctr.bd aa func145 rfl ?_
 refine evl ?_
 refine scs ?_
 refine ck e236 (hcm) rfl ?_
 refine evl ?_
 refine scs ?_
 refine ck e237 (hcc) rfl ?_
 refine evl ?_
 refine scs ?_
 refine ck e238 (c238 b.Limbo z3 z4) rfl ?_
 refine evl ?_
 refine scs ?_
 refine ck e239 (c239 b.Haz (by omega)) rfl ?_
 refine evl ?_
 refine scs ?_
 constructor <;> intro hq
 ·refine Fin.nt results145 [] ?_ ?_ ?_ <;> try trivial
  (refine rsl ?_; try exact .intro)
  rw [baseOk]
  revert hq
  cases memOk b.Mem <;> cases clockOk b.Clock <;> cases limboOk b.Limbo <;> cases hazOk b.Haz <;> simp
 have hall : memOk b.Mem = true /\ clockOk b.Clock = true /\ limboOk b.Limbo = true /\ hazOk b.Haz = true := by
  revert hq
  cases memOk b.Mem <;> cases clockOk b.Clock <;> cases limboOk b.Limbo <;> cases hazOk b.Haz <;> simp
 have hs := (bW hall.1).2.2
 refine ck e240 (hcf hs) rfl ?_
 refine evl ?_
 refine scs ?_
 refine Fin.nt results145 [] ?_ ?_ ?_ <;> try trivial
 (refine rsl ?_; try exact .intro)
 rw [baseOk, hall.1, hall.2.1, hall.2.2.1, hall.2.2.2, lm]
 exact iv _ _ _ fun x _ => by rw [<- aG, Bool.not_not]
theorem c125 (b : Base) (hz : sizBase b <= 1048576) : Ctr prog 125 [.agg ((encBase b).map .dat)] [] (.one (.dat (.bool (baseOk b)))) [] := by
 have hmx : maxLen = 9223372036854775807 := rfl
 obtain ⟨z1, z2, z3, z4, z5, z6⟩ := dE hz
 have hcm := c210 b.Mem z1
 have hcc := c211 b.Clock (by omega)
 have hcv := fun hs h => c153 b.Mem z1 hs h
 have hca := c214 b.Limbo z3 z4
 simp only [encMem, encClock, encBase, List.map_cons, List.map_nil] at hcm hcc hcv ⊢
 refine Ctr.bd aa func125 rfl ?_
 refine evl ?_
 refine scs ?_
 refine ck e210 (hcm) rfl ?_
 refine evl ?_
 refine scs ?_
 refine ck e211 (hcc) rfl ?_
 refine evl ?_
 refine scs ?_
 refine ck e212 (c212 b.Limbo z3 z4) rfl ?_
 refine evl ?_
 refine scs ?_
 refine ck e213 (c213 b.Haz (by omega)) rfl ?_
 refine evl ?_
 refine scs ?_
 constructor <;> intro hq
 ·refine Fin.nt results125 [] ?_ ?_ ?_ <;> try trivial
  (refine rsl ?_; try exact .intro)
  rw [baseOk]
  revert hq
  cases memOk b.Mem <;> cases clockOk b.Clock <;> cases limboOk b.Limbo <;> cases hazOk b.Haz <;> simp
 have hall : memOk b.Mem = true /\ clockOk b.Clock = true /\ limboOk b.Limbo = true /\ hazOk b.Haz = true := by
  revert hq
  cases memOk b.Mem <;> cases clockOk b.Clock <;> cases limboOk b.Limbo <;> cases hazOk b.Haz <;> simp
 have hs := (bW hall.1).2.2
 have hbo : baseOk b = (rowsOf b.Limbo).all (rowLive b) := by rw [baseOk, hall.1, hall.2.1, hall.2.2.1, hall.2.2.2]; rfl
 rw [hbo]
 clear hq
 refine ck e214 (hca) rfl ?_
 refine evl ?_
 refine scs ?_
 generalize rowsOf b.Limbo = R at z4 hca hbo ⊢
 refine ab (fun zn zs => ∃ i : Nat, i <= R.length /\ zn = R.length - i /\ (R.all (rowLive b) = (R.drop i).all (rowLive b)) /\ zs = mkSt [(4, .one (.dat (.int .i64 i))), (1, .one (.ptr (.own 0 0 0))), (3, .one (.own 1))] [.box [.dat (.sl 1 (b.Mem.Heap.Bytes.map encI)), .dat (.sl 1 (b.Mem.Heap.Class.map encI)), .dat (.sl 1 (b.Mem.Lists.Global.map encSList)), .dat (.sl 1 (b.Mem.Lists.Own.map encSList)), .dat (.int .i64 b.Clock.Epoch), .dat (.sl 4 (b.Clock.Pins.map encPin)), .dat (.sl 1 (b.Limbo.map encLList)), .dat (.sl 1 (b.Haz.map encI))], .vec 2 true (R.map encLRow)]) (R.length) _
  (Ent.wk [0, 1]) ⟨0, by omega, by omega, rfl, rfl⟩ ?_
 rintro zn zs ⟨i, hi, rfl, hinv, rfl⟩ K hK
 rcases Nat.lt_or_ge i (R.length) with hlt | hge
 ·have hdi : decide ((i : Int) < ((R.length : Nat) : Int)) = true := decide_eq_true (by omega)
  have hw := ah hlt (show R.length <= maxLen by omega)
  rw [List.drop_eq_getElem_cons hlt, List.all_cons] at hinv
  obtain ⟨r, hri⟩ : ∃ r, R[i] = r := ⟨_, rfl⟩
  rw [hri] at hinv
  refine sv44 ?_
  refine scs ?_
  refine ck e153 (hcv hs r.Handle) rfl ?_
  refine sv44 ?_
  refine scs ?_
  have he : decide (b.Clock.Epoch < r.Epoch) = !decide (r.Epoch <= b.Clock.Epoch) := by
   by_cases h : r.Epoch <= b.Clock.Epoch
   ·simp [h]
   ·simp [h]; omega
  rw [he]
  constructor <;> intro hq
  ·have hp0 : rowLive b r = false := by
    revert hq; rw [rowLive]
    cases isLiveM b.Mem r.Handle <;> cases decide (r.Epoch <= b.Clock.Epoch) <;> simp
   rw [hp0, Bool.false_and] at hinv
   apply hK
   refine sv44 ?_
   refine Fin.nt results125 [] ?_ ?_ ?_ <;> try trivial
   (refine rsl ?_; try exact .intro)
   exact hinv.symm
  ·have hp0 : rowLive b r = true := by
    revert hq; rw [rowLive]
    cases isLiveM b.Mem r.Handle <;> cases decide (r.Epoch <= b.Clock.Epoch) <;> simp
   rw [hp0, Bool.true_and] at hinv
   (apply hK
    exact ⟨R.length - (i + 1), _, by omega, Ent.wk [0, 1], i + 1, by omega, rfl, hinv, rfl⟩)
 ·have hge' : R.length = i := by omega
  subst hge'
  have hdi : decide (((R.length : Nat) : Int) < ((R.length : Nat) : Int)) = false := by simp
  rw [List.drop_length, List.all_nil] at hinv
  refine sv3 ?_
  apply hK
  refine evl ?_
  refine Fin.nt results125 [] ?_ ?_ ?_ <;> try trivial
  (refine rsl ?_; try exact .intro)
  exact hinv.symm
def queueOk (q : TQueue) : Bool := decide ((q.List.length : Int) <= 12) && q.List.all batchOk
def todosOk (l : List TQueue) : Bool := decide ((l.length : Int) = 3) && l.all queueOk
theorem hZ {l : List TQueue} (hz : sizTQueueS l <= 1048576) : l.length <= 1048576 /\ ∀ q ∈ l, q.List.length <= 1048576 /\ ∀ b ∈ q.List, b.Cmds.length <= 1048576 := by
 unfold sizTQueueS at hz
 refine ⟨by omega, fun q hq => ?_⟩
 have h1 := aX sizTQueue hq
 have h2 : sizTQueue q <= 1048576 := by omega
 unfold sizTQueue sizBatchS at h2
 refine ⟨by omega, fun b hb => ?_⟩
 have h3 := aX sizBatch hb
 have h4 : sizBatch b <= 1048576 := by omega
 unfold sizBatch at h4; omega
theorem c84 (b : Batch) (hl : b.Cmds.length <= maxLen) : Ctr prog 84 [.agg ((encBatch b).map .dat)] [] (.one (.dat (.bool (!batchOk b)))) [] := by
 have hcb := c85 b hl
 simp only [encBatch, List.map_cons, List.map_nil] at hcb ⊢
 refine Ctr.bd aa func84 rfl ?_
 refine evl ?_
 refine scs ?_
 refine ck e85 (hcb) rfl ?_
 refine evl ?_
 refine Fin.nt results84 [] ?_ ?_ ?_ <;> try trivial
theorem c82 (q : TQueue) (hl : q.List.length <= maxLen) (hb : ∀ b ∈ q.List, b.Cmds.length <= maxLen) : Ctr prog 82 [.agg ((encTQueue q).map .dat)] [] (.one (.dat (.bool (!queueOk q)))) [] := by
 simp only [encTQueue, List.map_cons, List.map_nil]
 refine Ctr.bd aa func82 rfl ?_
 refine sv18 ?_
 refine scs ?_
 refine ck e83 (oQ q.List hl e84 (fun x hx => c84 x (hb x hx))) rfl ?_
 refine sv18 ?_
 refine scs ?_
 refine Fin.nt results82 [] ?_ ?_ ?_ <;> try trivial
 (refine rsl ?_; try exact .intro)
 have he : decide (12 < (q.List.length : Int)) = !decide ((q.List.length : Int) <= 12) := by
  by_cases h : (q.List.length : Int) <= 12
  ·simp [h]
  ·simp [h]; omega
 rw [he, queueOk, <- aG]
 cases decide ((q.List.length : Int) <= 12) <;> simp
theorem c29 (l : List TQueue) (hz : sizTQueueS l <= 1048576) : Ctr prog 29 [.one (.dat (.sl 1 (l.map encTQueue)))] [] (.one (.dat (.bool (todosOk l)))) [] := by
 have hmx : maxLen = 9223372036854775807 := rfl
 obtain ⟨hl, hq⟩ := hZ hz
 refine Ctr.bd aa func29 rfl ?_
 refine sv18 ?_
 refine scs ?_
 refine ck e81 (mh l (by omega) e82 (fun x hx => c82 x (by have := (hq x hx).1; omega) (fun b hb => by have := (hq x hx).2 b hb; omega))) rfl ?_
 refine sv18 ?_
 refine scs ?_
 refine Fin.nt results29 [] ?_ ?_ ?_ <;> try trivial
 (refine rsl ?_; try exact .intro)
 simp only [todosOk, <- aG, ibeq]
 cases decide ((l.length : Int) = 3) <;> rfl
theorem c25 (l : List TQueue) (hz : sizTQueueS l <= 1048576) : Ctr prog 25 [.one (.dat (.sl 1 (l.map encTQueue)))] [] (.one (.dat (.bool (todosOk l)))) [] := by
 have hmx : maxLen = 9223372036854775807 := rfl
 obtain ⟨hl, hql⟩ := hZ hz
 have hcb := fun b hb => c74 b hb
 simp only [encBatch, List.map_cons, List.map_nil] at hcb
 refine Ctr.bd aa func25 rfl ?_
 refine sv18 ?_
 refine scs ?_
 refine ab (fun zn zs => ∃ i : Nat, i <= l.length /\ zn = l.length - i /\ (l.all queueOk = (l.drop i).all queueOk) /\ zs = mkSt [(3, .one (.dat (.int .i64 i))), (0, .one (.dat (.sl 1 (l.map encTQueue))))] []) (l.length) _
  (Ent.wk []) ⟨0, by omega, by omega, rfl, rfl⟩ ?_
 rintro zn zs ⟨i, hi, rfl, hinv, rfl⟩ K hK
 rcases Nat.lt_or_ge i (l.length) with hlt | hge
 ·have hdi : decide ((i : Int) < ((l.length : Nat) : Int)) = true := decide_eq_true (by omega)
  have hw := ah hlt (show l.length <= maxLen by omega)
  rw [List.drop_eq_getElem_cons hlt, List.all_cons] at hinv
  obtain ⟨q, hqi⟩ : ∃ q, l[i] = q := ⟨_, rfl⟩
  have hqm : q ∈ l := hqi ▸ List.getElem_mem hlt
  obtain ⟨hl1, hl2⟩ := hql q hqm
  rw [hqi] at hinv
  simp (maxSteps := 2000000) only [go_sem, seval, hdi, hw, getD_map hlt, hqi, encTQueue]
  refine scs ?_
  constructor <;> intro hq
  ·have hp0 : queueOk q = false := by
    have hd := of_decide_eq_true hq
    rw [queueOk, decide_eq_false (by omega)]; rfl
   rw [hp0, Bool.false_and] at hinv
   apply hK
   simp (maxSteps := 2000000) only [go_sem, seval, hdi, hw, getD_map hlt, hqi, encTQueue]
   refine Fin.nt results25 [] ?_ ?_ ?_ <;> try trivial
   (refine rsl ?_; try exact .intro)
   rw [todosOk, hinv, Bool.and_false]
  have hq0 : queueOk q = q.List.all batchOk := by
   have hd := of_decide_eq_false hq
   rw [queueOk, decide_eq_true (by omega)]; rfl
  clear hq
  obtain ⟨B, hB⟩ : ∃ B, q.List = B := ⟨_, rfl⟩
  rw [hB] at hq0 hl1 hl2 ⊢
  refine ab (fun zn zs => ∃ k : Nat, k <= B.length /\ zn = B.length - k /\ (B.all batchOk = (B.drop k).all batchOk) /\ zs = mkSt [(4, .one (.dat (.int .i64 k))), (3, .one (.dat (.int .i64 i))), (0, .one (.dat (.sl 1 (l.map encTQueue))))] []) (B.length) _
   (Ent.wk []) ⟨0, by omega, by omega, rfl, rfl⟩ ?_
  rintro zn zs ⟨k, hi2, rfl, hinv2, rfl⟩ K2 hK2
  rcases Nat.lt_or_ge k (B.length) with hlt2 | hge2
  ·have hdi2 : decide ((k : Int) < ((B.length : Nat) : Int)) = true := decide_eq_true (by omega)
   have hw2 := ah hlt2 (show B.length <= maxLen by omega)
   rw [List.drop_eq_getElem_cons hlt2, List.all_cons] at hinv2
   obtain ⟨b, hbk⟩ : ∃ b, B[k] = b := ⟨_, rfl⟩
   have hbm : b ∈ B := hbk ▸ List.getElem_mem hlt2
   rw [hbk] at hinv2
   refine sv45 ?_
   refine scs ?_
   refine ck e74 (hcb b (by have := hl2 b hbm; omega)) rfl ?_
   refine sv45 ?_
   refine scs ?_
   constructor <;> intro hq
   ·have hp1 : batchOk b = false := by simpa using hq
    rw [hp1, Bool.false_and] at hinv2
    rw [hq0, hinv2, Bool.false_and] at hinv
    apply hK2
    refine sv45 ?_
    apply hK
    refine sv45 ?_
    refine Fin.nt results25 [] ?_ ?_ ?_ <;> try trivial
    (refine rsl ?_; try exact .intro)
    rw [todosOk, hinv, Bool.and_false]
   ·have hp1 : batchOk b = true := by simpa using hq
    rw [hp1, Bool.true_and] at hinv2
    (apply hK2
     exact ⟨B.length - (k + 1), _, by omega, Ent.wk [], k + 1, by omega, rfl, hinv2, rfl⟩)
  ·have hge2' : B.length = k := by omega
   subst hge2'
   have hdi2 : decide (((B.length : Nat) : Int) < ((B.length : Nat) : Int)) = false := by simp
   rw [List.drop_length, List.all_nil] at hinv2
   rw [hq0, hinv2, Bool.true_and] at hinv
   simp (maxSteps := 2000000) only [go_sem, seval, hdi2, hdi, getD_map hlt, hqi, hB, encTQueue]
   refine scs ?_
   apply hK2
   refine sv2 ?_
   (apply hK
    exact ⟨l.length - (i + 1), _, by omega, Ent.wk [], i + 1, by omega, rfl, hinv, rfl⟩)
 ·have hge' : l.length = i := by omega
  subst hge'
  have hdi : decide (((l.length : Nat) : Int) < ((l.length : Nat) : Int)) = false := by simp
  rw [List.drop_length, List.all_nil] at hinv
  refine sv3 ?_
  apply hK
  refine sv18 ?_
  refine Fin.nt results25 [] ?_ ?_ ?_ <;> try trivial
  (refine rsl ?_; try exact .intro)
  rw [todosOk, hinv, Bool.and_true, ibeq]
def Leaf.le (l m : Leaf) : Prop := l = m \/ (l = .emp /\ ∃ sz, m = .dat (.sl sz []))
def lsLe : List Leaf -> List Leaf -> Prop
 | [], [] => True
 | l :: ls, m :: ms => Leaf.le l m /\ lsLe ls ms
 | _, _ => False
def AV.le : AV -> AV -> Prop
 | .agg ls, .agg ms => lsLe ls ms
 | a, b => a = b
def avsLe : List AV -> List AV -> Prop
 | [], [] => True
 | a :: us, b :: bs => AV.le a b /\ avsLe us bs
 | _, _ => False
theorem Leaf.le_rel {C : Ctx} {l m : Leaf} (h : Leaf.le l m) {v : Value} (hr : LeafRel C l v) : LeafRel C m v := by
 rcases h with rfl | ⟨rfl, sz, rfl⟩
 ·exact hr
 ·obtain ⟨a, rfl⟩ := hr
  exact ⟨[], .nil _ _ _, by simp⟩
theorem jr {C : Ctx} : ∀ {ls ms : List Leaf}, lsLe ls ms -> ∀ {vs : List Value}, Go.Abs.Leaves C ls vs -> Go.Abs.Leaves C ms vs
 | [], [], _, vs, hr => hr
 | l :: ls, m :: ms, ⟨h1, h2⟩, vs, hr => by
  cases vs with
  | nil => have := hr.1; simp at this
  | cons v vs =>
   have ht := jr h2 (vs := vs) ⟨by have := hr.1; simpa using this, fun j l' hj => by simpa using hr.2 (j + 1) l' (by simpa using hj)⟩
   refine ⟨by have := ht.1; simp [this], fun j l' hj => ?_⟩
   cases j with
   | zero =>
    cases hj
    obtain ⟨u, hu, hl⟩ := hr.2 0 l rfl
    exact ⟨u, hu, Leaf.le_rel h1 hl⟩
   | succ j => simpa using ht.2 j l' (by simpa using hj)
 | [], _ :: _, h, _, _ => h.elim
 | _ :: _, [], h, _, _ => h.elim
theorem AV.le_rel {C : Ctx} {a b : AV} (h : AV.le a b) {v : Value} (hr : AVRel C a v) : AVRel C b v := by
 unfold AV.le at h
 split at h
 ·obtain ⟨vs, rfl, hl⟩ := hr
  exact ⟨vs, rfl, jr h hl⟩
 ·subst h; exact hr
theorem ic : ∀ {us bs : List AV}, avsLe us bs -> us.length = bs.length /\ ∀ (j : Nat) (b : AV), bs[j]? = some b -> ∃ a, us[j]? = some a /\ AV.le a b
 | [], [], _ => ⟨rfl, fun j b hj => by simp at hj⟩
 | a :: us, b :: bs, ⟨h1, h2⟩ => by
  obtain ⟨g1, g2⟩ := ic h2
  refine ⟨by simp [g1], fun j b' hj => ?_⟩
  cases j with
  | zero => cases hj; exact ⟨a, rfl, h1⟩
  | succ j => simpa using g2 j b' (by simpa using hj)
 | [], _ :: _, h => h.elim
 | _ :: _, [], h => h.elim
theorem Ctr.emps {P : Program} {f : FuncId} {us bs : List AV} {objs : List AObj} {r : AV} {objs' : List AObj} (h : Ctr P f bs objs r objs') (hle : avsLe us bs) : Ctr P f us objs r objs' where
 clean := h.clean
 sep := h.sep
 len := h.len
 comp := h.comp
 calls := fun w β φ vs h1 ⟨h2, h3⟩ => by
  obtain ⟨g1, g2⟩ := ic hle
  refine h.calls w β φ vs h1 ⟨by rw [h2, g1], fun j b hj => ?_⟩
  obtain ⟨a, ha, hab⟩ := g2 j b hj
  obtain ⟨v, hv, hr⟩ := h3 j a ha
  exact ⟨v, hv, AV.le_rel hab hr⟩
def isBkt (x : Int) : Bool := within x 0 1
def fewH (l : List Int) : Bool := decide ((l.length : Int) <= 6) && l.all handleOk
def heldOk (l : List Int) : Bool := l.all isBkt && decide l.Nodup
def wrGood (l : List Write) (i : Nat) : Bool := within (l.getD i ⟨0, false, 0⟩).Key 0 99 && within (l.getD i ⟨0, false, 0⟩).Val 0 65535 && (i == 0 || decide ((l.getD (i - 1) ⟨0, false, 0⟩).Key < (l.getD i ⟨0, false, 0⟩).Key))
def writesGood (l : List Write) : Bool := (List.range l.length).all (wrGood l)
def writesOk (l : List Write) : Bool := decide ((l.length : Int) <= 6) && writesGood l
def seenOk (s : Seen) : Bool := isBkt s.Bkt
def jobOn (j : TJob) : Bool := batchOk j.Batch && (isLink j.H && (isLink j.Prev && (isBkt j.Bkt && (within j.At 0 j.Batch.Cmds.length && (within j.K 0 100 && (fewH j.New && (fewH j.Olds && (j.Reads.all seenOk && (writesOk j.Writes && heldOk j.Held)))))))))
def tjobOk (j : TJob) : Bool := bif j.Busy then jobOn j else decide (j = zeroTJob)
theorem cY {l : List Write} (h : ∀ j, j < l.length -> wrGood l j = true) : writesGood l = true := by simpa [writesGood] using h
theorem cP {l : List Write} {i : Nat} (h : i < l.length) (hb : wrGood l i = false) : writesGood l = false := by
 cases e : writesGood l
 ·rfl
 ·simp [writesGood] at e
  simp [e i h] at hb
theorem ku {i n : Nat} (h : i < n) (hn : n <= maxLen) (b : Bool) (hb : (b && decide ((0 : Int) < i)) = true) : 0 <= IntKind.i64.wrap ((i : Int) - 1) /\ IntKind.i64.wrap ((i : Int) - 1) < (n : Int) := by
 simp only [Bool.and_eq_true, decide_eq_true_eq] at hb
 rw [cU h hn]; omega
theorem ig {l : List Write} {i : Nat} (hlt : i < l.length) (h1 : i - 1 < l.length) : wrGood l i =
  !(bif (bif !within l[i].Key 0 99 then true else !within l[i].Val 0 65535) then true else bif decide ((0 : Int) < i) then decide (l[i].Key <= l[i - 1].Key) else false) := by
 unfold wrGood
 rw [List.getD_eq_getElem?_getD, List.getD_eq_getElem?_getD, List.getElem?_eq_getElem hlt, List.getElem?_eq_getElem h1, Option.getD_some, Option.getD_some]
 by_cases h : i = 0
 ·subst h; simp
 ·have h' : 0 < i := by omega
  have e : decide (l[i - 1].Key < l[i].Key) = !decide (l[i].Key <= l[i - 1].Key) := by
   by_cases hh : l[i].Key <= l[i - 1].Key
   ·simp [hh]
   ·simp [hh]; omega
  rw [e]
  cases within l[i].Key 0 99 <;> cases within l[i].Val 0 65535 <;> simp [h, h']
theorem ft {q : List Int} {x : Int} (h : heldOk q = true) (hw : isBkt x = true) (hx : x ∉ q) : heldOk (q ++ [x]) = true := by
 simp only [heldOk, Bool.and_eq_true, List.all_eq_true, decide_eq_true_eq] at h ⊢
 refine ⟨fun y hy => ?_, List.nodup_append.2 ⟨h.2, by simp, fun a ha b hb e => hx (by rw [List.mem_singleton.1 hb] at e; exact e ▸ ha)⟩⟩
 rcases List.mem_append.1 hy with hy | hy
 ·exact h.1 y hy
 ·rw [List.mem_singleton.1 hy]; exact hw
theorem heldOk_bad {a b : List Int} {x : Int} (h : isBkt x = false \/ x ∈ a) : heldOk (a ++ x :: b) = false := by
 rw [Bool.eq_false_iff]
 intro hg
 simp only [heldOk, Bool.and_eq_true, List.all_eq_true, decide_eq_true_eq] at hg
 rcases h with h | h
 ·rw [hg.1 x (by simp)] at h; cases h
 ·exact (List.nodup_append.1 hg.2).2.2 x h x (by simp) rfl
theorem ew : zeroTJob.sok := by simp [TJob.sok, zeroTJob, zeroBatch, Batch.sok]
theorem c248 (x : Int) : Ctr prog 248 [.one (.dat (.int .i64 x))] [] (.one (.dat (.bool (isBkt x)))) [] := by
 refine Ctr.bd aa func248 rfl ?_
 refine evl ?_
 refine scs ?_
 refine ck e151 (c151 ..) rfl ?_
 refine evl ?_
 refine Fin.nt results248 [] ?_ ?_ ?_ <;> try trivial
theorem c317 (x : Int) : Ctr prog 317 [.one (.dat (.int .i64 x))] [] (.one (.dat (.bool (!handleOk x)))) [] := by
 refine Ctr.bd aa func317 rfl ?_
 refine evl ?_
 refine scs ?_
 refine ck e306 (c306 x) rfl ?_
 refine evl ?_
 refine Fin.nt results317 [] ?_ ?_ ?_ <;> try trivial
theorem c249 (l : List Int) (hl : l.length <= maxLen) : Ctr prog 249 [.one (.dat (.sl 1 (l.map encI)))] [] (.one (.dat (.bool (fewH l)))) [] := by
 refine Ctr.bd aa func249 rfl ?_
 refine sv18 ?_
 refine scs ?_
 refine ck e139 (dk l hl e317 (fun x _ => c317 x)) rfl ?_
 refine sv18 ?_
 refine scs ?_
 refine Fin.nt results249 [] ?_ ?_ ?_ <;> try trivial
 (refine rsl ?_; try exact .intro)
 simp only [fewH, <- aG]
 cases decide ((l.length : Int) <= 6) <;> rfl
theorem c216 (l : List Int) (hl : l.length <= maxLen) : Ctr prog 216 [.one (.dat (.sl 1 (l.map encI)))] [] (.one (.dat (.bool (fewH l)))) [] := by
 refine Ctr.bd aa func216 rfl ?_
 refine sv18 ?_
 refine scs ?_
 refine ab (fun zn zs => ∃ i : Nat, i <= l.length /\ zn = l.length - i /\ (l.all handleOk = (l.drop i).all handleOk) /\ zs = mkSt [(3, .one (.dat (.int .i64 i))), (0, .one (.dat (.sl 1 (l.map encI))))] []) (l.length) _
  (Ent.wk []) ⟨0, by omega, by omega, rfl, rfl⟩ ?_
 rintro zn zs ⟨i, hi, rfl, hinv, rfl⟩ K hK
 rcases Nat.lt_or_ge i (l.length) with hlt | hge
 ·have hdi : decide ((i : Int) < ((l.length : Nat) : Int)) = true := decide_eq_true (by omega)
  have hw := ah hlt hl
  rw [List.drop_eq_getElem_cons hlt, List.all_cons] at hinv
  refine sv13 ?_
  refine scs ?_
  refine ck e253 (c253 l[i]) rfl ?_
  refine sv13 ?_
  refine scs ?_
  constructor <;> intro hq
  ·rw [bw hq, Bool.false_and] at hinv
   apply hK
   refine sv13 ?_
   refine Fin.nt results216 [] ?_ ?_ ?_ <;> try trivial
   (refine rsl ?_; try exact .intro)
   rw [fewH, hinv, Bool.and_false]
  ·rw [bx hq, Bool.true_and] at hinv
   (apply hK
    exact ⟨l.length - (i + 1), _, by omega, Ent.wk [], i + 1, by omega, rfl, hinv, rfl⟩)
 ·have hge' : l.length = i := by omega
  subst hge'
  have hdi : decide (((l.length : Nat) : Int) < ((l.length : Nat) : Int)) = false := by simp
  rw [List.drop_length, List.all_nil] at hinv
  refine sv3 ?_
  apply hK
  refine sv18 ?_
  refine Fin.nt results216 [] ?_ ?_ ?_ <;> try trivial
  (refine rsl ?_; try exact .intro)
  rw [fewH, hinv, Bool.and_true]
theorem c252 (l : List Write) (hl : l.length <= maxLen) : Ctr prog 252 [.one (.dat (.sl 3 (l.map encWrite)))] [] (.one (.dat (.bool (writesOk l)))) [] := by
 refine Ctr.bd aa func252 rfl ?_
 refine evl ?_
 refine scs ?_
 refine ab (fun zn zs => ∃ i : Nat, i <= l.length /\ zn = l.length - i /\ (∀ j, j < i -> wrGood l j = true) /\ zs = mkSt [(7, .one (.dat (.int .i64 i))), (6, .one (.dat (.int .i64 (l.length)))), (5, .one (.dat (.sl 3 (l.map encWrite)))), (0, .one (.dat (.sl 3 (l.map encWrite))))] []) (l.length) _
  (Ent.wk []) ⟨0, by omega, by omega, fun j hj => absurd hj (Nat.not_lt_zero j), rfl⟩ ?_
 rintro zn zs ⟨i, hi, rfl, hinv, rfl⟩ K hK
 rcases Nat.lt_or_ge i (l.length) with hlt | hge
 ·have hdi : decide ((i : Int) < ((l.length : Nat) : Int)) = true := decide_eq_true (by omega)
  have hw := ah hlt hl
  have hlt1 : i - 1 < l.length := by omega
  have hwg := ig hlt hlt1
  have hpb := ku hlt hl
  refine sv46 ?_
  refine scs ?_
  first | refine af e151 (c151 ..) rfl rfl ?_ | refine ag e151 (c151 ..) rfl rfl ?_
  refine sv46 ?_
  refine scs ?_
  first | refine af e151 (c151 ..) rfl rfl ?_ | refine ag e151 (c151 ..) rfl rfl ?_
  refine sv46 ?_
  refine scs ?_
  constructor <;> intro hq
  ·apply hK
   refine sv46 ?_
   refine Fin.nt results252 [] ?_ ?_ ?_ <;> try trivial
   (refine rsl ?_; try exact .intro)
   rw [writesOk, cP hlt (by rw [hwg, hq]; rfl), Bool.and_false]
  ·(apply hK
    exact ⟨l.length - (i + 1), _, by omega, Ent.wk [], i + 1, by omega, rfl, (fun j hj => by rcases Nat.lt_succ_iff_lt_or_eq.1 hj with hj | rfl; exact hinv j hj; rw [hwg, hq]; rfl), rfl⟩)
 ·have hge' : l.length = i := by omega
  subst hge'
  have hdi : decide (((l.length : Nat) : Int) < ((l.length : Nat) : Int)) = false := by simp
  refine sv3 ?_
  apply hK
  refine sv18 ?_
  refine Fin.nt results252 [] ?_ ?_ ?_ <;> try trivial
  (refine rsl ?_; try exact .intro)
  rw [writesOk, cY hinv, Bool.and_true]
theorem c251 (x : Seen) : Ctr prog 251 [.agg ((encSeen x).map .dat)] [] (.one (.dat (.bool (!seenOk x)))) [] := by
 simp only [encSeen, List.map_cons, List.map_nil]
 refine Ctr.bd aa func251 rfl ?_
 refine evl ?_
 refine scs ?_
 refine ck e248 (c248 x.Bkt) rfl ?_
 refine evl ?_
 refine Fin.nt results251 [] ?_ ?_ ?_ <;> try trivial
theorem c150 (j : TJob) (hs : j.sok) : Ctr prog 150 [.agg ((encTJob j).map .dat)] [] (.one (.dat (.bool (tjobOk j)))) [] := by
 have hmx : maxLen = 9223372036854775807 := rfl
 have hsj := c247 j zeroTJob hs ew
 obtain ⟨⟨hb, _⟩, h1, h2, h3, h4, h5, h6, _⟩ := hs
 have hcb := c85 j.Batch (by omega)
 simp only [encBatch, List.map_cons, List.map_nil] at hcb
 simp only [encTJob, zeroTJob, zeroBatch, zeroNode, zeroSub, List.map_cons, List.map_nil] at hsj ⊢
 refine Ctr.bd aa func150 rfl ?_
 refine evl ?_
 refine scs ?_
 constructor <;> intro hq
 ·refine ck e247 (Ctr.emps hsj (by simp [avsLe, AV.le, lsLe, Leaf.le])) rfl ?_
  refine evl ?_
  refine Fin.nt results150 [] ?_ ?_ ?_ <;> try trivial
  (refine rsl ?_; try exact .intro)
  rw [tjobOk, bw hq]; rfl
 have htj : tjobOk j = jobOn j := by rw [tjobOk, bx hq]; rfl
 rw [htj]
 clear hq hsj
 have hjo : heldOk j.Held = false -> jobOn j = false := fun h => by rw [jobOn, h]; simp
 refine ab (fun zn zs => ∃ i : Nat, i <= j.Held.length /\ zn = j.Held.length - i /\ (heldOk (j.Held.take i) = true) /\ zs = mkSt [(14, .one (.dat (.int .i64 i))), (13, .one (.dat (.int .i64 (j.Held.length)))), (12, .one (.dat (.sl 1 (j.Held.map encI)))), (1, .one (.ptr (.own 0 0 0)))] [.box [.dat (.bool j.Busy), .dat (.bool j.Batch.Collect), .dat (.sl 3 (j.Batch.Cmds.map encCmd)), .dat (.int .i64 j.Serial), .dat (.int .i64 j.Pc), .dat (.int .i64 j.At), .dat (.int .i64 j.K), .dat (.int .i64 j.Bkt), .dat (.int .i64 j.Ver), .dat (.int .i64 j.H), .dat (.int .i64 j.Prev), .dat (.int .i64 j.Node.Key), .dat (.int .i64 j.Node.Val), .dat (.int .i64 j.Node.Next), .dat (.bool j.Found), .dat (.int .i64 j.Code), .dat (.int .i64 j.Sub.Kind), .dat (.int .i64 j.Sub.A), .dat (.int .i64 j.Sub.Pc), .dat (.int .i64 j.Sub.E), .dat (.int .i64 j.Sub.Row), .dat (.int .i64 j.Sub.B), .dat (.int .i64 j.Sub.H), .dat (.int .i64 j.Sub.Out), .dat (.int .i64 j.Sub.Code), .dat (.bool j.Sub.Done), .dat (.sl 2 (j.Reads.map encSeen)), .dat (.sl 3 (j.Writes.map encWrite)), .dat (.sl 2 (j.Res.map encRes)), .dat (.sl 1 (j.New.map encI)), .dat (.sl 1 (j.Held.map encI)), .dat (.sl 1 (j.Olds.map encI))]]) (j.Held.length) _
  (Ent.wk [0]) ⟨0, by omega, by omega, rfl, rfl⟩ ?_
 rintro zn zs ⟨i, hi, rfl, hinv, rfl⟩ K hK
 rcases Nat.lt_or_ge i (j.Held.length) with hlt | hge
 ·have hdi : decide ((i : Int) < ((j.Held.length : Nat) : Int)) = true := decide_eq_true (by omega)
  have hw := ah hlt (show j.Held.length <= maxLen by omega)
  have hch := c233 (j.Held.take i) (by rw [List.length_take]; omega) j.Held[i]
  rw [List.map_take] at hch
  have htk : j.Held.take (i + 1) = j.Held.take i ++ [j.Held[i]] := List.take_succ_eq_append_getElem hlt
  refine sv13 ?_
  refine scs ?_
  refine ck e248 (c248 j.Held[i]) rfl ?_
  refine sv13 ?_
  refine scs ?_
  refine ck e233 (hch) rfl ?_
  refine sv13 ?_
  refine scs ?_
  constructor <;> intro hq
  ·apply hK
   refine sv13 ?_
   refine Fin.nt results150 [] ?_ ?_ ?_ <;> try trivial
   (refine rsl ?_; try exact .intro)
   refine (hjo ?_).symm
   rw [take_split hlt rfl]
   refine heldOk_bad ?_
   cases hb1 : isBkt j.Held[i] with
   | false => exact .inl rfl
   | true => exact .inr (by simpa [hb1] using hq)
  ·have hb1 : isBkt j.Held[i] = true := by
    cases hb1 : isBkt j.Held[i] with
    | true => rfl
    | false => simp [hb1] at hq
   have hni : j.Held[i] ∉ j.Held.take i := fun hm => by
    rw [hb1] at hq
    simp only [Bool.not_true, cond_false] at hq
    rw [List.any_eq_true.2 ⟨_, hm, by simp⟩] at hq
    cases hq
   (apply hK
    exact ⟨j.Held.length - (i + 1), _, by omega, Ent.wk [0], i + 1, by omega, rfl, by rw [htk]; exact ft hinv hb1 hni, rfl⟩)
 ·have hge' : j.Held.length = i := by omega
  subst hge'
  have hdi : decide (((j.Held.length : Nat) : Int) < ((j.Held.length : Nat) : Int)) = false := by simp
  rw [List.take_length] at hinv
  have hjo2 : jobOn j = (batchOk j.Batch && (isLink j.H && (isLink j.Prev && (isBkt j.Bkt && (within j.At 0 j.Batch.Cmds.length && (within j.K 0 100 && (fewH j.New && (fewH j.Olds && (j.Reads.all seenOk && writesOk j.Writes))))))))) := by
   rw [jobOn, hinv, Bool.and_true]
  refine sv3 ?_
  apply hK
  refine sv40 ?_
  refine scs ?_
  refine ck e85 (hcb) rfl ?_
  refine sv40 ?_
  refine scs ?_
  refine ck e246 (c246 j.H) rfl ?_
  refine sv40 ?_
  refine scs ?_
  refine ck e246 (c246 j.Prev) rfl ?_
  refine sv40 ?_
  refine scs ?_
  refine ck e248 (c248 j.Bkt) rfl ?_
  refine sv40 ?_
  refine scs ?_
  refine ck e151 (c151 ..) rfl ?_
  refine sv40 ?_
  refine scs ?_
  refine ck e151 (c151 ..) rfl ?_
  refine sv40 ?_
  refine scs ?_
  refine ck e249 (c249 j.New (by omega)) rfl ?_
  refine sv40 ?_
  refine scs ?_
  refine ck e249 (c249 j.Olds (by omega)) rfl ?_
  refine sv40 ?_
  refine scs ?_
  refine ck e250 (og j.Reads (by omega) e251 (fun x _ => c251 x)) rfl ?_
  refine sv40 ?_
  refine scs ?_
  refine ck e252 (c252 j.Writes (by omega)) rfl ?_
  refine sv40 ?_
  refine scs ?_
  refine Fin.nt results150 [] ?_ ?_ ?_ <;> try trivial
  (refine rsl ?_; try exact .intro)
  rw [hjo2, <- aG]
  simp only [Bool.cond_false_right, Bool.and_assoc]
theorem c128 (j : TJob) (hs : j.sok) : Ctr prog 128 [.agg ((encTJob j).map .dat)] [] (.one (.dat (.bool (jobOn j)))) [] := by
 have hmx : maxLen = 9223372036854775807 := rfl
 obtain ⟨⟨hb, _⟩, h1, h2, h3, h4, h5, h6, _⟩ := hs
 have hcb := c74 j.Batch (by omega)
 simp only [encBatch, List.map_cons, List.map_nil] at hcb
 simp only [encTJob, List.map_cons, List.map_nil]
 refine Ctr.bd aa func128 rfl ?_
 refine sv40 ?_
 refine scs ?_
 refine ck e74 (hcb) rfl ?_
 refine sv40 ?_
 refine scs ?_
 refine ck e215 (c215 j.H) rfl ?_
 refine sv40 ?_
 refine scs ?_
 refine ck e215 (c215 j.Prev) rfl ?_
 refine sv40 ?_
 refine scs ?_
 refine ck e126 (c126 ..) rfl ?_
 refine sv40 ?_
 refine scs ?_
 refine ck e126 (c126 ..) rfl ?_
 refine sv40 ?_
 refine scs ?_
 refine ck e126 (c126 ..) rfl ?_
 refine sv40 ?_
 refine scs ?_
 refine ck e216 (c216 j.New (by omega)) rfl ?_
 refine sv40 ?_
 refine scs ?_
 refine ck e216 (c216 j.Olds (by omega)) rfl ?_
 refine sv40 ?_
 refine scs ?_
 obtain ⟨a, ha⟩ : ∃ a, a = (batchOk j.Batch && (isLink j.H && (isLink j.Prev && (isBkt j.Bkt && (within j.At 0 j.Batch.Cmds.length && (within j.K 0 100 && (fewH j.New && (fewH j.Olds && decide ((j.Writes.length : Int) <= 6))))))))) := ⟨_, rfl⟩
 have hjo : jobOn j = (a && (j.Reads.all seenOk && (writesGood j.Writes && heldOk j.Held))) := by
  rw [jobOn, ha, writesOk]
  cases decide ((j.Writes.length : Int) <= 6) <;> simp [Bool.and_assoc]
 have hde : decide (6 < (j.Writes.length : Int)) = !decide ((j.Writes.length : Int) <= 6) := by
  by_cases h : (j.Writes.length : Int) <= 6
  ·simp [h]
  ·simp [h]; omega
 rw [hde]
 constructor <;> intro hq
 ·have ha0 : a = false := by
   rw [ha]
   simpa [isBkt, Bool.cond_true_left, Decidable.or_iff_not_imp_left] using hq
  refine Fin.nt results128 [] ?_ ?_ ?_ <;> try trivial
  (refine rsl ?_; try exact .intro)
  rw [hjo, ha0, Bool.false_and]
 have ha1 : a = true := by
  rw [ha]
  simpa [isBkt, and_assoc] using hq
 rw [ha1, Bool.true_and] at hjo
 rw [hjo]
 clear hq hde ha hcb
 refine ab (fun zn zs => ∃ i : Nat, i <= j.Held.length /\ zn = j.Held.length - i /\ (heldOk (j.Held.take i) = true) /\ zs = mkSt [(3, .one (.dat (.int .i64 i))), (1, .one (.ptr (.own 0 0 0)))] [.box [.dat (.bool j.Busy), .dat (.bool j.Batch.Collect), .dat (.sl 3 (j.Batch.Cmds.map encCmd)), .dat (.int .i64 j.Serial), .dat (.int .i64 j.Pc), .dat (.int .i64 j.At), .dat (.int .i64 j.K), .dat (.int .i64 j.Bkt), .dat (.int .i64 j.Ver), .dat (.int .i64 j.H), .dat (.int .i64 j.Prev), .dat (.int .i64 j.Node.Key), .dat (.int .i64 j.Node.Val), .dat (.int .i64 j.Node.Next), .dat (.bool j.Found), .dat (.int .i64 j.Code), .dat (.int .i64 j.Sub.Kind), .dat (.int .i64 j.Sub.A), .dat (.int .i64 j.Sub.Pc), .dat (.int .i64 j.Sub.E), .dat (.int .i64 j.Sub.Row), .dat (.int .i64 j.Sub.B), .dat (.int .i64 j.Sub.H), .dat (.int .i64 j.Sub.Out), .dat (.int .i64 j.Sub.Code), .dat (.bool j.Sub.Done), .dat (.sl 2 (j.Reads.map encSeen)), .dat (.sl 3 (j.Writes.map encWrite)), .dat (.sl 2 (j.Res.map encRes)), .dat (.sl 1 (j.New.map encI)), .dat (.sl 1 (j.Held.map encI)), .dat (.sl 1 (j.Olds.map encI))]]) (j.Held.length) _
  (Ent.wk [0]) ⟨0, by omega, by omega, rfl, rfl⟩ ?_
 rintro zn zs ⟨i, hi, rfl, hinv, rfl⟩ K hK
 rcases Nat.lt_or_ge i (j.Held.length) with hlt | hge
 ·have hdi : decide ((i : Int) < ((j.Held.length : Nat) : Int)) = true := decide_eq_true (by omega)
  have hw := ah hlt (show j.Held.length <= maxLen by omega)
  have hch := c154 (j.Held.take i) (by rw [List.length_take]; omega) j.Held[i]
  rw [List.map_take] at hch
  have htk : j.Held.take (i + 1) = j.Held.take i ++ [j.Held[i]] := List.take_succ_eq_append_getElem hlt
  refine sv13 ?_
  refine scs ?_
  first | refine af e126 (c126 j.Held[i] 0 1) rfl rfl ?_ | refine ag e126 (c126 j.Held[i] 0 1) rfl rfl ?_
  refine sv13 ?_
  refine scs ?_
  first | refine af e154 (hch) rfl rfl ?_ | refine ag e154 (hch) rfl rfl ?_
  refine sv13 ?_
  refine scs ?_
  constructor <;> intro hq
  ·apply hK
   refine sv13 ?_
   refine Fin.nt results128 [] ?_ ?_ ?_ <;> try trivial
   (refine rsl ?_; try exact .intro)
   rw [take_split (l := j.Held) hlt rfl, heldOk_bad, Bool.and_false, Bool.and_false]
   cases hb1 : isBkt j.Held[i] with
   | false => exact .inl rfl
   | true => exact .inr (by rw [isBkt] at hb1; simpa [hb1] using hq)
  ·have hb1 : isBkt j.Held[i] = true := by
    rw [isBkt]
    cases hb1 : within j.Held[i] 0 1 with
    | true => rfl
    | false => simp [hb1] at hq
   have hni : j.Held[i] ∉ j.Held.take i := fun hm => by
    rw [isBkt] at hb1
    rw [hb1] at hq
    simp only [Bool.not_true, cond_false] at hq
    rw [List.any_eq_true.2 ⟨_, hm, by simp⟩] at hq
    cases hq
   (apply hK
    exact ⟨j.Held.length - (i + 1), _, by omega, Ent.wk [0], i + 1, by omega, rfl, by rw [htk]; exact ft hinv hb1 hni, rfl⟩)
 ·have hge' : j.Held.length = i := by omega
  subst hge'
  have hdi : decide (((j.Held.length : Nat) : Int) < ((j.Held.length : Nat) : Int)) = false := by simp
  rw [List.take_length] at hinv
  have hheld := hinv
  clear hinv
  refine sv3 ?_
  apply hK
  rw [hheld, Bool.and_true]
  refine evl ?_
  refine ab (fun zn zs => ∃ i : Nat, i <= j.Reads.length /\ zn = j.Reads.length - i /\ (j.Reads.all seenOk = (j.Reads.drop i).all seenOk) /\ zs = mkSt [(4, .one (.dat (.int .i64 i))), (1, .one (.ptr (.own 0 0 0)))] [.box [.dat (.bool j.Busy), .dat (.bool j.Batch.Collect), .dat (.sl 3 (j.Batch.Cmds.map encCmd)), .dat (.int .i64 j.Serial), .dat (.int .i64 j.Pc), .dat (.int .i64 j.At), .dat (.int .i64 j.K), .dat (.int .i64 j.Bkt), .dat (.int .i64 j.Ver), .dat (.int .i64 j.H), .dat (.int .i64 j.Prev), .dat (.int .i64 j.Node.Key), .dat (.int .i64 j.Node.Val), .dat (.int .i64 j.Node.Next), .dat (.bool j.Found), .dat (.int .i64 j.Code), .dat (.int .i64 j.Sub.Kind), .dat (.int .i64 j.Sub.A), .dat (.int .i64 j.Sub.Pc), .dat (.int .i64 j.Sub.E), .dat (.int .i64 j.Sub.Row), .dat (.int .i64 j.Sub.B), .dat (.int .i64 j.Sub.H), .dat (.int .i64 j.Sub.Out), .dat (.int .i64 j.Sub.Code), .dat (.bool j.Sub.Done), .dat (.sl 2 (j.Reads.map encSeen)), .dat (.sl 3 (j.Writes.map encWrite)), .dat (.sl 2 (j.Res.map encRes)), .dat (.sl 1 (j.New.map encI)), .dat (.sl 1 (j.Held.map encI)), .dat (.sl 1 (j.Olds.map encI))]]) (j.Reads.length) _
   (Ent.wk [0]) ⟨0, by omega, by omega, rfl, rfl⟩ ?_
  rintro zn zs ⟨i, hi, rfl, hinv, rfl⟩ K hK
  rcases Nat.lt_or_ge i (j.Reads.length) with hlt | hge
  ·have hdi : decide ((i : Int) < ((j.Reads.length : Nat) : Int)) = true := decide_eq_true (by omega)
   have hw := ah hlt (show j.Reads.length <= maxLen by omega)
   rw [List.drop_eq_getElem_cons hlt, List.all_cons] at hinv
   refine sv47 ?_
   refine scs ?_
   refine ck e126 (c126 j.Reads[i].Bkt 0 1) rfl ?_
   refine sv47 ?_
   refine scs ?_
   constructor <;> intro hq
   ·rw [seenOk, isBkt, bw hq, Bool.false_and] at hinv
    apply hK
    refine sv47 ?_
    refine Fin.nt results128 [] ?_ ?_ ?_ <;> try trivial
    (refine rsl ?_; try exact .intro)
    rw [hinv, Bool.false_and]
   ·rw [seenOk, isBkt, bx hq, Bool.true_and] at hinv
    (apply hK
     exact ⟨j.Reads.length - (i + 1), _, by omega, Ent.wk [0], i + 1, by omega, rfl, hinv, rfl⟩)
  ·have hge' : j.Reads.length = i := by omega
   subst hge'
   have hdi : decide (((j.Reads.length : Nat) : Int) < ((j.Reads.length : Nat) : Int)) = false := by simp
   rw [List.drop_length, List.all_nil] at hinv
   have hreads := hinv
   clear hinv
   refine sv3 ?_
   apply hK
   rw [hreads, Bool.true_and]
   refine evl ?_
   refine ab (fun zn zs => ∃ i : Nat, i <= j.Writes.length /\ zn = j.Writes.length - i /\ (∀ n, n < i -> wrGood j.Writes n = true) /\ zs = mkSt [(5, .one (.dat (.int .i64 i))), (1, .one (.ptr (.own 0 0 0)))] [.box [.dat (.bool j.Busy), .dat (.bool j.Batch.Collect), .dat (.sl 3 (j.Batch.Cmds.map encCmd)), .dat (.int .i64 j.Serial), .dat (.int .i64 j.Pc), .dat (.int .i64 j.At), .dat (.int .i64 j.K), .dat (.int .i64 j.Bkt), .dat (.int .i64 j.Ver), .dat (.int .i64 j.H), .dat (.int .i64 j.Prev), .dat (.int .i64 j.Node.Key), .dat (.int .i64 j.Node.Val), .dat (.int .i64 j.Node.Next), .dat (.bool j.Found), .dat (.int .i64 j.Code), .dat (.int .i64 j.Sub.Kind), .dat (.int .i64 j.Sub.A), .dat (.int .i64 j.Sub.Pc), .dat (.int .i64 j.Sub.E), .dat (.int .i64 j.Sub.Row), .dat (.int .i64 j.Sub.B), .dat (.int .i64 j.Sub.H), .dat (.int .i64 j.Sub.Out), .dat (.int .i64 j.Sub.Code), .dat (.bool j.Sub.Done), .dat (.sl 2 (j.Reads.map encSeen)), .dat (.sl 3 (j.Writes.map encWrite)), .dat (.sl 2 (j.Res.map encRes)), .dat (.sl 1 (j.New.map encI)), .dat (.sl 1 (j.Held.map encI)), .dat (.sl 1 (j.Olds.map encI))]]) (j.Writes.length) _
    (Ent.wk [0]) ⟨0, by omega, by omega, fun n hn => absurd hn (Nat.not_lt_zero n), rfl⟩ ?_
   rintro zn zs ⟨i, hi, rfl, hinv, rfl⟩ K hK
   rcases Nat.lt_or_ge i (j.Writes.length) with hlt | hge
   ·have hdi : decide ((i : Int) < ((j.Writes.length : Nat) : Int)) = true := decide_eq_true (by omega)
    have hw := ah hlt (show j.Writes.length <= maxLen by omega)
    have hlt1 : i - 1 < j.Writes.length := by omega
    have hwg := ig hlt hlt1
    have hpb := ku hlt (show j.Writes.length <= maxLen by omega)
    refine sv48 ?_
    refine scs ?_
    first | refine af e126 (c126 ..) rfl rfl ?_ | refine ag e126 (c126 ..) rfl rfl ?_
    refine sv48 ?_
    refine scs ?_
    first | refine af e126 (c126 ..) rfl rfl ?_ | refine ag e126 (c126 ..) rfl rfl ?_
    refine sv48 ?_
    refine scs ?_
    constructor <;> intro hq
    ·apply hK
     refine sv48 ?_
     refine Fin.nt results128 [] ?_ ?_ ?_ <;> try trivial
     (refine rsl ?_; try exact .intro)
     rw [cP hlt (by rw [hwg, hq]; rfl)]
    ·(apply hK
      exact ⟨j.Writes.length - (i + 1), _, by omega, Ent.wk [0], i + 1, by omega, rfl, (fun j hj => by rcases Nat.lt_succ_iff_lt_or_eq.1 hj with hj | rfl; exact hinv j hj; rw [hwg, hq]; rfl), rfl⟩)
   ·have hge' : j.Writes.length = i := by omega
    subst hge'
    have hdi : decide (((j.Writes.length : Nat) : Int) < ((j.Writes.length : Nat) : Int)) = false := by simp
    refine sv3 ?_
    apply hK
    refine evl ?_
    refine Fin.nt results128 [] ?_ ?_ ?_ <;> try trivial
    (refine rsl ?_; try exact .intro)
    rw [cY hinv]
def bktOkB (b : Bkt) : Bool := bktOk b.Head b.Ver b.Lock
def tableOk (t : Table) : Bool := baseOk t.Base && (decide ((t.Bkts.length : Int) = 2) && (t.Bkts.all bktOkB && (decide ((t.Jobs.length : Int) = 3) && (t.Jobs.all tjobOk && (todosOk t.Todo && within t.Serial 0 1000000)))))
theorem cZ {t : Table} (hz : sizTable t <= 1048576) : sizBase t.Base <= 1048576 /\ t.Bkts.length <= 1048576 /\ t.Jobs.length <= 1048576 /\ (∀ j ∈ t.Jobs, j.sok) /\ sizTQueueS t.Todo <= 1048576 := by
 unfold sizTable sizTJobS at hz
 exact ⟨by omega, by omega, by omega, fun j hj => TJob.sok_of (by have := aX sizTJob hj; omega), by omega⟩
theorem bL {t : Table} (h : tableOk t = true) : baseOk t.Base = true /\ t.Bkts.length = 2 /\ t.Jobs.length = 3 /\ (∀ j ∈ t.Jobs, tjobOk j = true) /\ ∀ b ∈ t.Bkts, bktOkB b = true := by
 simp only [tableOk, Bool.and_eq_true, decide_eq_true_eq, List.all_eq_true] at h
 exact ⟨h.1, by omega, by omega, h.2.2.2.2.1, h.2.2.1⟩
theorem c147 (x : Bkt) : Ctr prog 147 [.agg ((encBkt x).map .dat)] [] (.one (.dat (.bool (!bktOkB x)))) [] := by
 simp only [encBkt, List.map_cons, List.map_nil]
 refine Ctr.bd aa func147 rfl ?_
 refine evl ?_
 refine scs ?_
 refine ck e148 (c148 ..) rfl ?_
 refine evl ?_
 refine Fin.nt results147 [] ?_ ?_ ?_ <;> try trivial
theorem c149 (x : TJob) (hs : x.sok) : Ctr prog 149 [.agg ((encTJob x).map .dat)] [] (.one (.dat (.bool (!tjobOk x)))) [] := by
 have hcj := c150 x hs
 simp only [encTJob, List.map_cons, List.map_nil] at hcj ⊢
 refine Ctr.bd aa func149 rfl ?_
 refine sv40 ?_
 refine scs ?_
 refine ck e150 (hcj) rfl ?_
 refine sv40 ?_
 refine Fin.nt results149 [] ?_ ?_ ?_ <;> try trivial
theorem c63 (t : Table) (hz : sizTable t <= 1048576) : Ctr prog 63 [.agg ((encTable t).map .dat)] [] (.one (.dat (.bool (tableOk t)))) [] := by
 have hmx : maxLen = 9223372036854775807 := rfl
 obtain ⟨z1, z2, z3, z4, z5⟩ := cZ hz
 have hcb := c145 t.Base z1
 simp only [encBase, encTable, List.map_cons, List.map_nil] at hcb ⊢
 refine Ctr.bd aa func63 rfl ?_
 refine sv18 ?_
 refine scs ?_
 refine ck e145 (hcb) rfl ?_
 refine sv18 ?_
 refine scs ?_
 refine ck e146 (oa t.Bkts (by omega) e147 (fun x _ => c147 x)) rfl ?_
 refine sv18 ?_
 refine scs ?_
 refine ck e142 (kj t.Jobs (by omega) e149 (fun x hx => c149 x (z4 x hx))) rfl ?_
 refine sv18 ?_
 refine scs ?_
 refine ck e29 (c29 t.Todo z5) rfl ?_
 refine sv18 ?_
 refine scs ?_
 refine ck e151 (c151 ..) rfl ?_
 refine sv18 ?_
 refine scs ?_
 refine Fin.nt results63 [] ?_ ?_ ?_ <;> try trivial
 (refine rsl ?_; try exact .intro)
 rw [tableOk, <- aG, <- aG]
 simp only [Bool.cond_false_right, Bool.and_assoc, ibeq]
theorem c54 (t : Table) (hz : sizTable t <= 1048576) : Ctr prog 54 [.agg ((encTable t).map .dat)] [] (.one (.dat (.bool (tableOk t)))) [] := by
 have hmx : maxLen = 9223372036854775807 := rfl
 obtain ⟨z1, z2, z3, z4, z5⟩ := cZ hz
 have hcb := c125 t.Base z1
 have hcj := fun j hs => c128 j hs
 have hcs := fun j hs => c129 j zeroTJob hs ew
 simp only [encBase, encTable, encTJob, zeroTJob, zeroBatch, zeroNode, zeroSub, List.map_cons, List.map_nil] at hcb hcj hcs ⊢
 refine Ctr.bd aa func54 rfl ?_
 refine sv18 ?_
 refine scs ?_
 refine ck e125 (hcb) rfl ?_
 refine sv18 ?_
 refine scs ?_
 refine ck e25 (c25 t.Todo z5) rfl ?_
 refine sv18 ?_
 refine scs ?_
 refine ck e126 (c126 ..) rfl ?_
 refine sv18 ?_
 refine scs ?_
 obtain ⟨a, ha⟩ : ∃ a, a = (baseOk t.Base && (decide ((t.Bkts.length : Int) = 2) && (decide ((t.Jobs.length : Int) = 3) && (todosOk t.Todo && within t.Serial 0 1000000)))) := ⟨_, rfl⟩
 have hto : tableOk t = (a && (t.Bkts.all bktOkB && t.Jobs.all tjobOk)) := by
  rw [tableOk, ha]
  cases baseOk t.Base <;> cases decide ((t.Bkts.length : Int) = 2) <;> cases decide ((t.Jobs.length : Int) = 3) <;> cases todosOk t.Todo <;> cases within t.Serial 0 1000000 <;> simp
 constructor <;> intro hq
 ·have ha0 : a = false := by
   rw [ha]
   revert hq
   cases baseOk t.Base <;> cases todosOk t.Todo <;> cases within t.Serial 0 1000000 <;> simp <;> omega
  refine Fin.nt results54 [] ?_ ?_ ?_ <;> try trivial
  (refine rsl ?_; try exact .intro)
  rw [hto, ha0, Bool.false_and]
 have ha1 : baseOk t.Base = true /\ (t.Bkts.length : Int) = 2 /\ (t.Jobs.length : Int) = 3 /\ a = true := by
  rw [ha]
  revert hq
  cases baseOk t.Base <;> cases todosOk t.Todo <;> cases within t.Serial 0 1000000 <;> simp <;> omega
 obtain ⟨_, hb2, hj3, ha2⟩ := ha1
 rw [ha2, Bool.true_and] at hto
 rw [hto]
 clear hq ha hcb
 refine ab (fun zn zs => ∃ i : Nat, i <= 2 /\ zn = 2 - i /\ (t.Bkts.all bktOkB = (t.Bkts.drop i).all bktOkB) /\ zs = mkSt [(3, .one (.dat (.int .i64 i))), (1, .one (.ptr (.own 0 0 0)))] [.box [.dat (.sl 1 (t.Base.Mem.Heap.Bytes.map encI)), .dat (.sl 1 (t.Base.Mem.Heap.Class.map encI)), .dat (.sl 1 (t.Base.Mem.Lists.Global.map encSList)), .dat (.sl 1 (t.Base.Mem.Lists.Own.map encSList)), .dat (.int .i64 t.Base.Clock.Epoch), .dat (.sl 4 (t.Base.Clock.Pins.map encPin)), .dat (.sl 1 (t.Base.Limbo.map encLList)), .dat (.sl 1 (t.Base.Haz.map encI)), .dat (.sl 3 (t.Bkts.map encBkt)), .dat (.sl 32 (t.Jobs.map encTJob)), .dat (.sl 1 (t.Todo.map encTQueue)), .dat (.sl 6 (t.Log.map encTEv)), .dat (.int .i64 t.Serial)]]) (2) _
  (Ent.wk [0]) ⟨0, by omega, by omega, rfl, rfl⟩ ?_
 rintro zn zs ⟨i, hi, rfl, hinv, rfl⟩ K hK
 rcases Nat.lt_or_ge i (2) with hlt | hge
 ·have hdi : decide ((i : Int) < ((2 : Nat) : Int)) = true := decide_eq_true (by omega)
  have hw := ah hlt (show 2 <= maxLen by decide)
  have hd3 : decide ((i : Int) < 2) = true := decide_eq_true (by omega)
  have hgi : i < t.Bkts.length := by omega
  rw [List.drop_eq_getElem_cons hgi, List.all_cons] at hinv
  refine sv49 ?_
  refine scs ?_
  refine ck e127 (c127 ..) rfl ?_
  refine sv49 ?_
  refine scs ?_
  constructor <;> intro hq
  ·rw [bktOkB, bw hq, Bool.false_and] at hinv
   apply hK
   refine sv49 ?_
   refine Fin.nt results54 [] ?_ ?_ ?_ <;> try trivial
   (refine rsl ?_; try exact .intro)
   rw [hinv, Bool.false_and]
  ·rw [bktOkB, bx hq, Bool.true_and] at hinv
   (apply hK
    exact ⟨2 - (i + 1), _, by omega, Ent.wk [0], i + 1, by omega, rfl, hinv, rfl⟩)
 ·have hge' : 2 = i := by omega
  subst hge'
  have hdi : decide (((2 : Nat) : Int) < ((2 : Nat) : Int)) = false := by simp
  have hd3 : decide (((2 : Nat) : Int) < 2) = false := rfl
  rw [List.drop_of_length_le (by omega), List.all_nil] at hinv
  have hbk := hinv
  clear hinv
  refine sv33 ?_
  apply hK
  rw [hbk, Bool.true_and]
  refine evl ?_
  refine ab (fun zn zs => ∃ i : Nat, i <= 3 /\ zn = 3 - i /\ (t.Jobs.all tjobOk = (t.Jobs.drop i).all tjobOk) /\ zs = mkSt [(4, .one (.dat (.int .i64 i))), (1, .one (.ptr (.own 0 0 0)))] [.box [.dat (.sl 1 (t.Base.Mem.Heap.Bytes.map encI)), .dat (.sl 1 (t.Base.Mem.Heap.Class.map encI)), .dat (.sl 1 (t.Base.Mem.Lists.Global.map encSList)), .dat (.sl 1 (t.Base.Mem.Lists.Own.map encSList)), .dat (.int .i64 t.Base.Clock.Epoch), .dat (.sl 4 (t.Base.Clock.Pins.map encPin)), .dat (.sl 1 (t.Base.Limbo.map encLList)), .dat (.sl 1 (t.Base.Haz.map encI)), .dat (.sl 3 (t.Bkts.map encBkt)), .dat (.sl 32 (t.Jobs.map encTJob)), .dat (.sl 1 (t.Todo.map encTQueue)), .dat (.sl 6 (t.Log.map encTEv)), .dat (.int .i64 t.Serial)]]) (3) _
   (Ent.wk [0]) ⟨0, by omega, by omega, rfl, rfl⟩ ?_
  rintro zn zs ⟨i, hi, rfl, hinv, rfl⟩ K hK
  rcases Nat.lt_or_ge i (3) with hlt | hge
  ·have hdi : decide ((i : Int) < ((3 : Nat) : Int)) = true := decide_eq_true (by omega)
   have hw := ah hlt (show 3 <= maxLen by decide)
   have hd3 : decide ((i : Int) < 3) = true := decide_eq_true (by omega)
   have hgi : i < t.Jobs.length := by omega
   rw [List.drop_eq_getElem_cons hgi, List.all_cons] at hinv
   obtain ⟨j, hji⟩ : ∃ j, t.Jobs[i] = j := ⟨_, rfl⟩
   have hsk : j.sok := z4 _ (hji ▸ List.getElem_mem hgi)
   rw [hji] at hinv
   refine sv50 ?_
   refine scs ?_
   refine ck e128 (hcj j hsk) rfl ?_
   refine sv50 ?_
   refine scs ?_
   refine ck e129 (Ctr.emps (hcs j hsk) (by simp [avsLe, AV.le, lsLe, Leaf.le])) rfl ?_
   refine sv50 ?_
   refine scs ?_
   have htj : tjobOk j = bif j.Busy then jobOn j else decide (j = zeroTJob) := rfl
   simp only [zeroTJob, zeroBatch, zeroNode, zeroSub] at htj
   constructor <;> intro hq
   ·have hp0 : tjobOk j = false := by
     rw [htj]; revert hq
     cases j.Busy <;> cases jobOn j <;> simp
    rw [hp0, Bool.false_and] at hinv
    apply hK
    refine sv50 ?_
    refine Fin.nt results54 [] ?_ ?_ ?_ <;> try trivial
    (refine rsl ?_; try exact .intro)
    exact hinv.symm
   ·have hp0 : tjobOk j = true := by
     rw [htj]; revert hq
     cases j.Busy <;> cases jobOn j <;> simp
    rw [hp0, Bool.true_and] at hinv
    (apply hK
     exact ⟨3 - (i + 1), _, by omega, Ent.wk [0], i + 1, by omega, rfl, hinv, rfl⟩)
  ·have hge' : 3 = i := by omega
   subst hge'
   have hdi : decide (((3 : Nat) : Int) < ((3 : Nat) : Int)) = false := by simp
   have hd3 : decide (((3 : Nat) : Int) < 3) = false := rfl
   rw [List.drop_of_length_le (by omega), List.all_nil] at hinv
   refine sv33 ?_
   apply hK
   refine evl ?_
   refine Fin.nt results54 [] ?_ ?_ ?_ <;> try trivial
   (refine rsl ?_; try exact .intro)
   exact hinv.symm
end Go.Proofs.YtkmmgklnoagedaaGreat.Mod
