import Derived.Test.YtkmmgklnoagedaaGreatRows
import Derived.Test.YtkmmgklnoagedaaGreatQATy
import Derived.Test.YtkmmgklnoagedaaGreatQAbsTac
import Derived.Test.YtkmmgklnoagedaaGreatQAbsData
import Derived.Test.YtkmmgklnoagedaaGreatQAHeap
import Derived.Test.YtkmmgklnoagedaaGreatQAHist
import Derived.WalkKit
import Derived.ProofKit
import Derived.OpenShut
/- Contracts: Lists. -/
namespace Go.Proofs.YtkmmgklnoagedaaGreat.Mod
open Go.Proofs.Tryz Go.Abs Go.Proofs.YtkmmgklnoagedaaGreat.Ty Go.ChangeShapes Go.WideShapes Go.ChangeAt Go.RowKit
set_option linter.unusedSimpArgs false
set_option linter.unusedVariables false
set_option maxHeartbeats 8000000
set_option maxRecDepth 100000
theorem c364 (n : Int) (h0 : 0 <= n) (hn : n <= 1000000) : Ctr prog 364 [.one .emp, .one (.dat (.int .i64 n))] [] (.one (.own 0)) [.vec 1 true []] := by
 have hn0 : decide (n < 0) = false := decide_eq_false (by omega)
 have hw1 : IntKind.i64.wrap (0 - 0) = 0 := by rw [wrap_id] <;> omega
 have hw0 : IntKind.i64.wrap 0 = 0 := by rw [wrap_id] <;> omega
 have hw2 : IntKind.i64.wrap (n - 0) = n := by rw [wrap_id] <;> omega
 refine Ctr.bd aa func364 rfl ?_
 simp (maxSteps := 2000000) only [go_sem, seval, hn0, hw1, hw2, hw0]
 refine scs ?_
 constructor <;> intro hq
 ·have hq := of_decide_eq_true hq
  refine ⟨⟨by omega, by omega, by omega⟩, by omega, ?_⟩
  refine Fin.ent (Ent.cut (t := 4) rfl rfl) ?_
  refine evl ?_
  refine Fin.nt results364 [1] ?_ ?_ ?_ <;> try trivial
  all_goals exact entd
 ·refine Fin.ent (Ent.emp (t := 4) (sz := 1) rfl) ?_
  refine evl ?_
  refine Fin.nt results364 [0] ?_ ?_ ?_ <;> try trivial
  all_goals exact entd
def encLL (x : List SList) : List D := [.sl 1 (x.map encSList)]
def sumLL (xs : List (List SList)) : Nat := (xs.map List.length).sum
theorem lk (x : List SList) (xs : List (List SList)) : sumLL (x :: xs) = x.length + sumLL xs := by simp [sumLL]
theorem ll (xs : List (List SList)) : xs.flatten.length = sumLL xs := by rw [List.length_flatten]; rfl
theorem c346 (xs : List (List SList)) (hx : xs.length <= 1048576) (hz : sumLL xs <= 1000000) : CtrB prog 346 [.one (.dat (.sl 1 (xs.map encLL)))] (.one (.own 0)) [.vec 1 false (xs.flatten.map encSList)] := by
 have hmx : maxLen = 9223372036854775807 := rfl
 refine CtrB.body aa func346 rfl (by kernel_rfl) (Nat.le_of_ble_eq_true rfl) (by simp [AV.isDat, Leaf.isDat]) (by simp [AV.Sh, AV.Sh1, Leaf.Sh]) (by simp [AObj.IsVec]) (by simp [AV.up, AV.up1, Leaf.up, AV.Low, AV.Low1, Leaf.Low]) (fun bl => ?_)
 refine evl ?_
 refine scs ?_
 refine ab (fun zn zs => ∃ (i : Nat) (z : Nat), i <= xs.length /\ zn = xs.length - i /\ (sumLL xs = z + sumLL (xs.drop i)) /\ zs = mkSt [(11, .one (.dat (.int .i64 i))), (10, .one (.dat (.int .i64 (xs.length)))), (9, .one (.dat (.sl 1 (xs.map encLL)))), (3, .one (.dat (.int .i64 (z : Int)))), (0, .one (.dat (.sl 1 (xs.map encLL))))] [.ballast bl]) (xs.length) _
  (Ent.wk [0]) ⟨0, 0, by omega, by omega, by rw [List.drop_zero, Nat.zero_add], rfl⟩ ?_
 rintro zn zs ⟨i, z, hi, rfl, hinv, rfl⟩ K hK
 rcases Nat.lt_or_ge i (xs.length) with hlt | hge
 ·have hdi : decide ((i : Int) < ((xs.length : Nat) : Int)) = true := decide_eq_true (by omega)
  have hw := ah hlt (show xs.length <= maxLen by omega)
  rw [List.drop_eq_getElem_cons hlt, lk] at hinv
  have hn : decide (((z + xs[i].length : Nat) : Int) < 0) = false := decide_eq_false (by omega)
  have hw2 : IntKind.i64.wrap ((z : Int) + (xs[i].length : Int)) = ((z + xs[i].length : Nat) : Int) := by rw [wrap_id] <;> omega
  simp (maxSteps := 2000000) only [go_sem, seval, hdi, hw, getD_map hlt, encLL, hw2, hn]
  refine scs ?_
  (apply hK
   exact ⟨xs.length - (i + 1), _, by omega, Ent.wk [0], i + 1, (z + xs[i].length), by omega, rfl, by omega, rfl⟩)
 ·have hge' : xs.length = i := by omega
  subst hge'
  have hdi : decide (((xs.length : Nat) : Int) < ((xs.length : Nat) : Int)) = false := by simp
  have hz' : sumLL xs = z := by rw [List.drop_length] at hinv; simpa [sumLL] using hinv
  clear hinv
  refine sv3 ?_
  apply hK
  refine evl ?_
  refine ck e364 (c364 (z : Int) (by omega) (by omega)) rfl ?_
  refine evl ?_
  refine g7 (Ent.unsep (o := 1) rfl) ?_
  refine evl ?_
  refine ab (fun zn zs => ∃ (i : Nat) (o : List SList), i <= xs.length /\ zn = xs.length - i /\ (xs.flatten = o ++ (xs.drop i).flatten) /\ zs = mkSt [(27, .one (.dat (.int .i64 i))), (26, .one (.dat (.int .i64 (xs.length)))), (25, .one (.dat (.sl 1 (xs.map encLL)))), (6, .one (.own 1)), (0, .one (.dat (.sl 1 (xs.map encLL))))] [.ballast bl, .vec 1 false (o.map encSList)]) (xs.length) _
   (Ent.wk [0, 1]) ⟨0, [], by omega, by omega, rfl, rfl⟩ ?_
  rintro zn zs ⟨i, o, hi, rfl, hinv, rfl⟩ K hK
  rcases Nat.lt_or_ge i (xs.length) with hlt | hge
  ·have hdi : decide ((i : Int) < ((xs.length : Nat) : Int)) = true := decide_eq_true (by omega)
   have hw := ah hlt (show xs.length <= maxLen by omega)
   rw [List.drop_eq_getElem_cons hlt, List.flatten_cons] at hinv
   have hlen : o.length + xs[i].length <= 1000000 := by
    have := congrArg List.length hinv
    rw [ll] at this
    simp only [List.length_append] at this
    omega
   simp (maxSteps := 2000000) only [go_sem, seval, hdi, hw, getD_map hlt, encLL]
   refine scs ?_
   (apply hK
    exact ⟨xs.length - (i + 1), _, by omega, Ent.wk [0, 2], i + 1, (o ++ xs[i]), by omega, rfl, by rw [List.append_assoc]; exact hinv, rfl⟩)
  ·have hge' : xs.length = i := by omega
   subst hge'
   have hdi : decide (((xs.length : Nat) : Int) < ((xs.length : Nat) : Int)) = false := by simp
   have hoe : xs.flatten = o := by rw [List.drop_length] at hinv; simpa using hinv
   clear hinv
   refine sv3 ?_
   apply hK
   refine evl ?_
   subst hoe
   refine Fin.nt results346 [0, 1] ?_ ?_ ?_ <;> try trivial
   all_goals exact entd
def metL (seen : List Int) : List Leaf := (List.range 24).map fun (k : Nat) => .dat (.bool (decide ((k : Int) ∈ seen)))
@[simp] theorem o5 : metL [] = [.dat (.bool false), .dat (.bool false), .dat (.bool false), .dat (.bool false), .dat (.bool false), .dat (.bool false), .dat (.bool false), .dat (.bool false), .dat (.bool false), .dat (.bool false), .dat (.bool false), .dat (.bool false), .dat (.bool false), .dat (.bool false), .dat (.bool false), .dat (.bool false), .dat (.bool false), .dat (.bool false), .dat (.bool false), .dat (.bool false), .dat (.bool false), .dat (.bool false), .dat (.bool false), .dat (.bool false)] := by
 simp [metL]
 rfl
theorem metL_len (seen : List Int) : (metL seen).length = 24 := by simp [metL]
@[simp] theorem o6 (seen : List Int) (ids : List Nat) : (metL seen).map (Leaf.renF ids) = metL seen := by simp [metL, Leaf.renF]
@[simp] theorem o7 (seen : List Int) (l : Leaf) : l ∈ metL seen ↔ ∃ k : Nat, k < 24 /\ Leaf.dat (.bool (decide ((k : Int) ∈ seen))) = l := by simp [metL]
theorem jm {seen : List Int} {x : Int} {d : Leaf} (h : within x 0 23 = true) : (metL seen).getD (x.toNat * 1) d = .dat (.bool (decide (x ∈ seen))) := by
 simp only [within, Bool.and_eq_true, decide_eq_true_eq] at h
 have : x.toNat < 24 := by omega
 simp [metL, List.getD_eq_getElem?_getD, this, show max x 0 = x by omega]
theorem jn (seen : List Int) (k : Nat) : ∃ b, (metL seen).getD k ((metL seen).getD 0 .emp) = .dat (.bool b) := by
 by_cases h : k < 24
 ·simp [metL, List.getD_eq_getElem?_getD, h]
 ·simp [metL, List.getD_eq_getElem?_getD, h]
theorem jo {seen : List Int} {x : Int} (h : within x 0 23 = true) : splice (metL seen) (x.toNat * 1) [.dat (.bool true)] = metL (seen ++ [x]) := by
 simp only [within, Bool.and_eq_true, decide_eq_true_eq] at h
 have hk : x.toNat * 1 < (metL seen).length := by rw [metL_len]; omega
 have e : splice (metL seen) (x.toNat * 1) [.dat (.bool true)] = (metL seen).set (x.toNat * 1) (.dat (.bool true)) := by
  rw [List.set_eq_take_append_cons_drop, if_pos hk]
  simp [splice]
 rw [e]
 refine List.ext_getElem (by simp [metL_len]) fun j h1 h2 => ?_
 rw [metL_len] at h2
 rw [List.getElem_set]
 simp only [metL, List.getElem_map, List.getElem_range, List.mem_append, List.mem_singleton]
 split
 ·rename_i hj
  have : (j : Int) = x := by omega
  simp [this]
 ·rename_i hj
  have : ¬ (j : Int) = x := by omega
  simp [this]
theorem br (l : List Int) : goodSlots l = true ↔ (∀ x ∈ l, within x 0 23 = true) /\ l.Nodup := by simp [goodSlots]
theorem dm (a b : List Int) : goodSlots (a ++ b) = goodSlots (b ++ a) := by
 rw [Bool.eq_iff_iff, br, br, (List.perm_append_comm (l₁ := a) (l₂ := b)).nodup_iff]
 simp only [List.mem_append, or_comm]
theorem dn {q : List Int} {x : Int} (h : goodSlots q = true) (hw : within x 0 23 = true) (hx : x ∉ q) : goodSlots (q ++ [x]) = true := by
 obtain ⟨h1, h2⟩ := (br _).1 h
 refine (br _).2 ⟨fun y hy => ?_, ?_⟩
 ·rcases List.mem_append.1 hy with hy | hy
  ·exact h1 y hy
  ·rw [List.mem_singleton.1 hy]; exact hw
 ·exact List.nodup_append.2 ⟨h2, by simp, fun a ha b hb e => hx (by rw [List.mem_singleton.1 hb] at e; exact e ▸ ha)⟩
theorem dO {a b : List Int} {x : Int} (h : within x 0 23 = false \/ x ∈ a) : goodSlots (a ++ x :: b) = false := by
 rw [Bool.eq_false_iff]
 intro hg
 obtain ⟨h1, h2⟩ := (br _).1 hg
 rcases h with h | h
 ·rw [h1 x (by simp)] at h; cases h
 ·exact (List.nodup_append.1 h2).2.2 x h x (by simp) rfl
theorem j3 {l : Lists} {L : List SList} (hL : L = l.Own ++ l.Global) {i : Nat} (hi : i < L.length) (h9 : i < l.Own.length) (h : 2 < (L[i].Slots.length : Int)) : listsOk l = false := by
 subst hL
 rw [List.getElem_append_left h9] at h
 have : l.Own.all (fun s => decide ((s.Slots.length : Int) <= 2)) = false := by
  rw [Bool.eq_false_iff]
  intro ha
  have := of_decide_eq_true (List.all_eq_true.1 ha _ (List.getElem_mem h9))
  omega
 simp [listsOk, this]
theorem fi (a b : List SList) : slotsOf (a ++ b) = slotsOf a ++ slotsOf b := by simp [slotsOf]
theorem fj {l : Lists} {L : List SList} (hL : L = l.Own ++ l.Global) {a b : List Int} {x : Int} (hs : slotsOf L = a ++ x :: b) (h : within x 0 23 = false \/ x ∈ a) : listsOk l = false := by
 rw [hL, fi] at hs
 simp only [listsOk, dm (slotsOf l.Global), hs, dO h, Bool.and_false]
theorem jp {l : Lists} {L : List SList} (hL : L = l.Own ++ l.Global) (h3 : l.Global.length = 3) (h9 : l.Own.length = 9) (hs : goodSlots (slotsOf L) = true) (h : ∀ j, j < 9 -> ((L.getD j ⟨[]⟩).Slots.length : Int) <= 2) : listsOk l = true := by
 rw [hL, fi] at hs
 have : l.Own.all (fun s => decide ((s.Slots.length : Int) <= 2)) = true := by
  rw [List.all_eq_true]
  intro s hm
  obtain ⟨j, hj, rfl⟩ := List.getElem_of_mem hm
  have := h j (by omega)
  rw [hL, List.getD_eq_getElem?_getD, List.getElem?_append_left hj, List.getElem?_eq_getElem hj] at this
  exact decide_eq_true this
 simp only [listsOk, dm (slotsOf l.Global), hs, this, h3, h9]
 rfl
theorem c302 (l : Lists) (hz : sizLists l <= 1048576) : Ctr prog 302 [.agg ((encLists l).map .dat)] [] (.one (.dat (.bool (listsOk l)))) [] := by
 have hmx : maxLen = 9223372036854775807 := rfl
 unfold sizLists sizSListS at hz
 simp only [encLists, List.map_cons, List.map_nil]
 refine Ctr.bd aa func302 rfl ?_
 simp (maxSteps := 2000000) only [go_sem, seval, frzAll]
 refine scs ?_
 constructor <;> intro hq
 ·refine Fin.nt results302 [] ?_ ?_ ?_ <;> try trivial
  (refine rsl ?_; try exact .intro)
  simp only [listsOk]
  cases h1 : decide ((l.Global.length : Int) = 3) <;> cases h2 : decide ((l.Own.length : Int) = 9) <;> simp_all
 have h3 : l.Global.length = 3 /\ l.Own.length = 9 := by
  cases h1 : decide ((l.Global.length : Int) = 3) <;> cases h2 : decide ((l.Own.length : Int) = 9) <;> simp_all <;> omega
 have hcc := c346 [l.Own, l.Global] (by simp) (by simp [sumLL]; omega)
 simp only [List.flatten_cons, List.flatten_nil, List.append_nil] at hcc
 obtain ⟨L, hL⟩ : ∃ L, L = l.Own ++ l.Global := ⟨_, rfl⟩
 rw [<- hL] at hcc
 have hLl : L.length = 12 := by rw [hL, List.length_append]; omega
 have hls : (L.map sizSList).sum <= 1048576 := by rw [hL, List.map_append, List.sum_append]; omega
 refine jU [2] e346 (hcc) rfl ?_
 simp (maxSteps := 2000000) only [go_sem, seval, frzAll]
 refine ab (fun zn zs => ∃ (i : Nat) (seen : List Int), i <= L.length /\ zn = L.length - i /\ (slotsOf L = seen ++ slotsOf (L.drop i) /\ goodSlots seen = true /\ ∀ j, j < i -> j < 9 -> ((L.getD j ⟨[]⟩).Slots.length : Int) <= 2) /\ zs = mkSt [(26, .one (.dat (.int .i64 i))), (25, .one (.dat (.int .i64 (L.length)))), (24, .one (.own 2)), (1, .one (.ptr (.own 0 0 0))), (3, .one (.ptr (.own 1 0 0)))] [.box [.dat (.sl 1 (l.Global.map encSList)), .dat (.sl 1 (l.Own.map encSList))], .box (metL seen), .vec 1 false (L.map encSList)]) (L.length) _
  (Ent.wk [0, 1, 3]) ⟨0, [], by omega, by omega, ⟨rfl, rfl, by omega⟩, rfl⟩ ?_
 rintro zn zs ⟨i, seen, hi, rfl, hinv, rfl⟩ K hK
 rcases Nat.lt_or_ge i (L.length) with hlt | hge
 ·have hdi : decide ((i : Int) < ((L.length : Nat) : Int)) = true := decide_eq_true (by omega)
  have hw := ah hlt (show L.length <= maxLen by omega)
  obtain ⟨hv1, hv2, hv3⟩ := hinv
  rw [slotsOf_drop hlt] at hv1
  refine sv23 ?_
  refine scs ?_
  constructor <;> intro hq2
  ·apply hK
   refine sv23 ?_
   refine Fin.nt results302 [] ?_ ?_ ?_ <;> try trivial
   (refine rsl ?_; try exact .intro)
   have h9 : i < l.Own.length := by
    refine Classical.byContradiction fun hn => ?_
    rw [decide_eq_false (by omega)] at hq2
    cases hq2
   rw [decide_eq_true (by omega), cond_true] at hq2
   exact (j3 hL hlt h9 (of_decide_eq_true hq2)).symm
  have hv4 : i < 9 -> (L[i].Slots.length : Int) <= 2 := fun h9 => by
   rw [decide_eq_true (by omega), cond_true] at hq2
   have := of_decide_eq_false hq2
   omega
  clear hq2
  have hsl : L[i].Slots.length <= 1048576 := by
   have := aX sizSList (List.getElem_mem hlt)
   have hx : sizSList L[i] = L[i].Slots.length := rfl
   omega
  generalize hsd : L[i].Slots = sl at hv1 hv4 hsl ⊢
  refine ab (fun zn zs => ∃ (k : Nat) (q : List Int), k <= sl.length /\ zn = sl.length - k /\ (seen ++ sl = q ++ sl.drop k /\ goodSlots q = true) /\ zs = mkSt [(45, .one (.dat (.int .i64 k))), (44, .one (.dat (.int .i64 (sl.length)))), (43, .one (.dat (.sl 1 (sl.map encI)))), (1, .one (.ptr (.own 0 0 0))), (3, .one (.ptr (.own 1 0 0))), (24, .one (.own 2)), (25, .one (.dat (.int .i64 (L.length : Nat)))), (26, .one (.dat (.int .i64 i)))] [.box [.dat (.sl 1 (l.Global.map encSList)), .dat (.sl 1 (l.Own.map encSList))], .box (metL q), .vec 1 false (L.map encSList)]) (sl.length) _
   (Ent.wk [0, 1, 2]) ⟨0, seen, by omega, by omega, ⟨rfl, hv2⟩, rfl⟩ ?_
  rintro zn zs ⟨k, q, hi2, rfl, hinv2, rfl⟩ K2 hK2
  rcases Nat.lt_or_ge k (sl.length) with hlt2 | hge2
  ·have hdi2 : decide ((k : Int) < ((sl.length : Nat) : Int)) = true := decide_eq_true (by omega)
   have hw2 := ah hlt2 (show sl.length <= maxLen by omega)
   obtain ⟨hu1, hu2⟩ := hinv2
   refine sv29 ?_
   have hx1 : seen ++ sl = q ++ sl[k] :: sl.drop (k + 1) := by rw [hu1, List.drop_eq_getElem_cons hlt2]
   have hx2 : slotsOf L = q ++ sl[k] :: (sl.drop (k + 1) ++ slotsOf (L.drop (i + 1))) := by rw [hv1, <- List.append_assoc, hx1]; simp only [List.append_assoc, List.cons_append]
   refine scs ?_
   refine ck e326 (c326 sl[k]) rfl ?_
   cases hwi : within sl[k] 0 23 with
   | false =>
    obtain ⟨bo, hbo⟩ := jn q (sl[k].toNat * 1)
    simp (maxSteps := 2000000) only [go_sem, seval, hdi2, hw2, getD_map hlt2, encI, hwi, hbo]
    refine scs ?_
    apply hK2
    refine sv29 ?_
    apply hK
    refine sv29 ?_
    refine Fin.nt results302 [] ?_ ?_ ?_ <;> try trivial
    (refine rsl ?_; try exact .intro)
    exact (fj hL hx2 (.inl hwi)).symm
   | true =>
    have hmg := fun d => jm (seen := q) (d := d) hwi
    have hms := jo (seen := q) hwi
    simp only [splice, List.length_cons, List.length_nil, Nat.zero_add] at hms
    have hwb : 0 <= sl[k] /\ sl[k] <= 23 := by simpa [within] using hwi
    have hwc : sl[k].toNat * 1 < 24 := by omega
    simp (maxSteps := 2000000) only [go_sem, seval, hdi2, hw2, getD_map hlt2, encI, hwi, hmg, hms, metL_len]
    refine scs ?_
    constructor <;> intro hq3
    ·apply hK2
     refine sv29 ?_
     apply hK
     refine sv29 ?_
     refine Fin.nt results302 [] ?_ ?_ ?_ <;> try trivial
     (refine rsl ?_; try exact .intro)
     exact (fj hL hx2 (.inr (by simpa using hq3))).symm
    ·refine scs ?_
     (apply hK2
      exact ⟨sl.length - (k + 1), _, by omega, Ent.wk [0, 1, 2], k + 1, (q ++ [sl[k]]), by omega, rfl, ⟨by rw [hx1]; simp only [List.append_assoc, List.cons_append, List.nil_append], dn hu2 hwi (by simpa using hq3)⟩, rfl⟩)
  ·have hge2' : sl.length = k := by omega
   subst hge2'
   have hdi2 : decide (((sl.length : Nat) : Int) < ((sl.length : Nat) : Int)) = false := by simp
   have hu3 : seen ++ sl = q := by rw [hinv2.1, List.drop_length, List.append_nil]
   refine sv30 ?_
   apply hK2
   refine sv2 ?_
   have hnx : ∀ j, j < i + 1 -> j < 9 -> ((L.getD j ⟨[]⟩).Slots.length : Int) <= 2 := fun j hj h9 => by
    rcases Nat.lt_succ_iff_lt_or_eq.1 hj with hj | rfl
    ·exact hv3 j hj h9
    ·rw [List.getD_eq_getElem?_getD, List.getElem?_eq_getElem hlt, Option.getD_some, hsd]; exact hv4 h9
   (apply hK
    exact ⟨L.length - (i + 1), _, by omega, Ent.wk [0, 1, 2], i + 1, q, by omega, rfl, ⟨by rw [hv1, <- List.append_assoc, hu3], hinv2.2, hnx⟩, rfl⟩)
 ·have hge' : L.length = i := by omega
  subst hge'
  have hdi : decide (((L.length : Nat) : Int) < ((L.length : Nat) : Int)) = false := by simp
  have hs' : slotsOf L = seen := by rw [hinv.1, List.drop_length]; simp [slotsOf]
  refine sv3 ?_
  apply hK
  refine evl ?_
  refine Fin.nt results302 [] ?_ ?_ ?_ <;> try trivial
  (refine rsl ?_; try exact .intro)
  exact (jp hL h3.1 h3.2 (by rw [hs']; exact hinv.2.1) (fun j hj => hinv.2.2 j (by omega) hj)).symm
theorem c286 (l : Lists) (hz : sizLists l <= 1048576) : Ctr prog 286 [.agg ((encLists l).map .dat)] [] (.one (.dat (.bool (listsOk l)))) [] := by
 have hmx : maxLen = 9223372036854775807 := rfl
 have hca := c338 l hz
 unfold sizLists sizSListS at hz
 simp only [encLists, List.map_cons, List.map_nil] at hca ⊢
 refine Ctr.bd aa func286 rfl ?_
 refine sv18 ?_
 refine scs ?_
 constructor <;> intro hq
 ·refine Fin.nt results286 [] ?_ ?_ ?_ <;> try trivial
  (refine rsl ?_; try exact .intro)
  simp only [listsOk]
  cases h1 : decide ((l.Global.length : Int) = 3) <;> cases h2 : decide ((l.Own.length : Int) = 9) <;> simp_all
 have h3 : l.Global.length = 3 /\ l.Own.length = 9 := by
  cases h1 : decide ((l.Global.length : Int) = 3) <;> cases h2 : decide ((l.Own.length : Int) = 9) <;> simp_all <;> omega
 have hlk : listsOk l = (l.Own.all (fun s => decide ((s.Slots.length : Int) <= 2)) && goodSlots (slotsOf l.Global ++ slotsOf l.Own)) := by
  simp only [listsOk, h3.1, h3.2]; rfl
 rw [hlk]
 refine ab (fun zn zs => ∃ i : Nat, i <= l.Own.length /\ zn = l.Own.length - i /\ ((l.Own.all fun s => decide ((s.Slots.length : Int) <= 2)) = (l.Own.drop i).all fun s => decide ((s.Slots.length : Int) <= 2)) /\ zs = mkSt [(3, .one (.dat (.int .i64 i))), (1, .one (.ptr (.own 0 0 0)))] [.box [.dat (.sl 1 (l.Global.map encSList)), .dat (.sl 1 (l.Own.map encSList))]]) (l.Own.length) _
  (Ent.wk [0]) ⟨0, by omega, by omega, rfl, rfl⟩ ?_
 rintro zn zs ⟨i, hi, rfl, hinv, rfl⟩ K hK
 rcases Nat.lt_or_ge i (l.Own.length) with hlt | hge
 ·have hdi : decide ((i : Int) < ((l.Own.length : Nat) : Int)) = true := decide_eq_true (by omega)
  have hw := ah hlt (show l.Own.length <= maxLen by omega)
  rw [List.drop_eq_getElem_cons hlt, List.all_cons] at hinv
  refine sv23 ?_
  refine scs ?_
  constructor <;> intro hq2
  ·have hd : decide ((l.Own[i].Slots.length : Int) <= 2) = false := decide_eq_false (by have := of_decide_eq_true hq2; omega)
   rw [hd, Bool.false_and] at hinv
   apply hK
   refine sv23 ?_
   refine Fin.nt results286 [] ?_ ?_ ?_ <;> try trivial
   (refine rsl ?_; try exact .intro)
   rw [hinv, Bool.false_and]
  ·have hd : decide ((l.Own[i].Slots.length : Int) <= 2) = true := decide_eq_true (by have := of_decide_eq_false hq2; omega)
   rw [hd, Bool.true_and] at hinv
   (apply hK
    exact ⟨l.Own.length - (i + 1), _, by omega, Ent.wk [0], i + 1, by omega, rfl, hinv, rfl⟩)
 ·have hge' : l.Own.length = i := by omega
  subst hge'
  have hdi : decide (((l.Own.length : Nat) : Int) < ((l.Own.length : Nat) : Int)) = false := by simp
  rw [List.drop_length, List.all_nil] at hinv
  have hown := hinv
  have hgl := bu l.Global
  have hol := bu l.Own
  generalize hA : slotsOf l.Global ++ slotsOf l.Own = A at hca
  have hAl : A.length <= 1048576 := by rw [<- hA, List.length_append]; omega
  clear hinv
  refine sv3 ?_
  apply hK
  refine evl ?_
  refine ck e338 (hca) rfl ?_
  refine evl ?_
  refine ab (fun zn zs => ∃ k : Nat, k <= A.length /\ zn = A.length - k /\ (goodSlots (A.take k) = true) /\ zs = mkSt [(5, .one (.dat (.int .i64 k))), (1, .one (.ptr (.own 0 0 0))), (4, .one (.own 1))] [.box [.dat (.sl 1 (l.Global.map encSList)), .dat (.sl 1 (l.Own.map encSList))], .vec 1 true (A.map encI)]) (A.length) _
   (Ent.wk [0, 1]) ⟨0, by omega, by omega, rfl, rfl⟩ ?_
  rintro zn zs ⟨k, hi2, rfl, hinv2, rfl⟩ K2 hK2
  rcases Nat.lt_or_ge k (A.length) with hlt2 | hge2
  ·have hdi2 : decide ((k : Int) < ((A.length : Nat) : Int)) = true := decide_eq_true (by omega)
   have hw2 := ah hlt2 (show A.length <= maxLen by omega)
   have hch := c154 (A.take k) (by rw [List.length_take]; omega) A[k]
   rw [List.map_take] at hch
   refine sv29 ?_
   refine scs ?_
   first | refine af e126 (c126 A[k] 0 23) rfl rfl ?_ | refine ag e126 (c126 A[k] 0 23) rfl rfl ?_
   refine sv29 ?_
   refine scs ?_
   first | refine af e154 (hch) rfl rfl ?_ | refine ag e154 (hch) rfl rfl ?_
   refine sv29 ?_
   refine scs ?_
   have hsp : A = A.take k ++ A[k] :: A.drop (k + 1) := by rw [<- List.drop_eq_getElem_cons hlt2, List.take_append_drop]
   have htk : A.take (k + 1) = A.take k ++ [A[k]] := List.take_succ_eq_append_getElem hlt2
   constructor <;> intro hq3
   ·apply hK2
    refine sv29 ?_
    refine Fin.nt results286 [] ?_ ?_ ?_ <;> try trivial
    (refine rsl ?_; try exact .intro)
    rw [hA, hown, hsp, dO, Bool.and_false]
    by_cases hwi : within A[k] 0 23 = true
    ·refine .inr ?_
     simpa [hwi] using hq3
    ·exact .inl (by simpa using hwi)
   ·have hwi : within A[k] 0 23 = true := by
     cases hwi : within A[k] 0 23 with
     | true => rfl
     | false => simp [hwi] at hq3
    have hni : A[k] ∉ A.take k := fun hm => by simp [hwi] at hq3; exact hq3 _ hm rfl
    (apply hK2
     exact ⟨A.length - (k + 1), _, by omega, Ent.wk [0, 1], k + 1, by omega, rfl, by rw [htk]; exact dn hinv2 hwi hni, rfl⟩)
  ·have hge2' : A.length = k := by omega
   subst hge2'
   have hdi2 : decide (((A.length : Nat) : Int) < ((A.length : Nat) : Int)) = false := by simp
   rw [List.take_length] at hinv2
   refine sv30 ?_
   apply hK2
   refine evl ?_
   refine Fin.nt results286 [] ?_ ?_ ?_ <;> try trivial
   (refine rsl ?_; try exact .intro)
   rw [hA, hown, hinv2]
   rfl
theorem c365 (x : SList) (hl : x.Slots.length <= maxLen) (s : Int) : Ctr prog 365 [.agg ((encSList x).map .dat), .one (.ptr (.ro 1 [[.int .i64 s]] 0 0))] [] (.one (.dat (.bool (x.Slots.any fun y => y == s)))) [] := by
 simp only [encSList, List.map_cons, List.map_nil]
 refine Ctr.bd aa func365 rfl ?_
 refine evl ?_
 refine scs ?_
 refine ck e233 (c233 x.Slots hl s) rfl ?_
 refine evl ?_
 refine Fin.nt results365 [] ?_ ?_ ?_ <;> try trivial
theorem fm (l : List SList) (p : Int -> Bool) : (slotsOf l).any p = l.any fun x => x.Slots.any p := by
 simp only [slotsOf, List.any_flatten, List.any_map]; rfl
theorem c348 (l : Lists) (hz : sizLists l <= 1048576) (s : Int) : Ctr prog 348 [.agg ((encLists l).map .dat), .one (.dat (.int .i64 s))] [] (.one (.dat (.bool (onListM l s)))) [] := by
 obtain ⟨hl1, hq1, hl2, hq2, _⟩ := Lists.lok_of (x := l) (by omega)
 simp only [encLists, List.map_cons, List.map_nil]
 refine Ctr.bd aa func348 rfl ?_
 refine evl ?_
 refine scs ?_
 refine ck e366 (ki l.Global hl1 e365 (fun x hx => c365 x (hq1 x hx).1 s)) rfl ?_
 refine evl ?_
 refine scs ?_
 refine ck e366 (ki l.Own hl2 e365 (fun x hx => c365 x (hq2 x hx).1 s)) rfl ?_
 refine evl ?_
 refine scs ?_
 refine Fin.nt results348 [] ?_ ?_ ?_ <;> try trivial
 (refine rsl ?_; try exact .intro)
 rw [onListM, List.any_append, fm, fm]
 cases l.Global.any _ <;> rfl
theorem c319 (l : Lists) (hz : sizLists l <= 1048576) (s : Int) : Ctr prog 319 [.agg ((encLists l).map .dat), .one (.dat (.int .i64 s))] [] (.one (.dat (.bool (onListM l s)))) [] := by
 have hmx : maxLen = 9223372036854775807 := rfl
 have hca := c338 l hz
 unfold sizLists sizSListS at hz
 have hg := bu l.Global
 have ho := bu l.Own
 simp only [encLists, List.map_cons, List.map_nil] at hca ⊢
 refine Ctr.bd aa func319 rfl ?_
 refine evl ?_
 refine scs ?_
 refine ck e338 (hca) rfl ?_
 refine evl ?_
 refine scs ?_
 refine ck e154 (c154 (slotsOf l.Global ++ slotsOf l.Own) (by rw [List.length_append]; omega) s) rfl ?_
 refine evl ?_
 refine Fin.nt results319 [] ?_ ?_ ?_ <;> try trivial
end Go.Proofs.YtkmmgklnoagedaaGreat.Mod
