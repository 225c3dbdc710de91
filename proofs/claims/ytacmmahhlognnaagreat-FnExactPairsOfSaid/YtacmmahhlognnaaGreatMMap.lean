/- Contracts: Map. -/
import Derived.Test.YtacmmahhlognnaaGreatRows
import Derived.Test.YtacmmahhlognnaaGreatTy
import Derived.Test.YtacmmahhlognnaaGreatAbsTac
import Derived.Test.YtacmmahhlognnaaGreatAbsData
import Derived.Test.YtacmmahhlognnaaGreatMNum
import Derived.Test.YtacmmahhlognnaaGreatMSl
import Derived.WalkKit
import Derived.ProofKit
import Derived.OpenShut
namespace Go.Proofs.YtacmmahhlognnaaGreat.Mod
open Go.Abs Go.Proofs.YtacmmahhlognnaaGreat.Ty Go.ChangeShapes Go.WideShapes Go.ChangeAt Go.RowKit
set_option linter.unusedSimpArgs false
set_option linter.unusedVariables false
set_option maxHeartbeats 8000000
set_option maxRecDepth 100000
def mapGood (l : List KV) (i : Nat) : Bool := within (l.getD i ⟨0, 0⟩).Key 0 99 && within (l.getD i ⟨0, 0⟩).Val 0 65535 && (i == 0 || decide ((l.getD (i - 1) ⟨0, 0⟩).Key < (l.getD i ⟨0, 0⟩).Key))
def mapOk (l : List KV) : Bool := (List.range l.length).all (mapGood l)
theorem mapOk_true {l : List KV} (h : ∀ j, j < l.length → mapGood l j = true) : mapOk l = true := by simpa [mapOk] using h
theorem mapOk_false {l : List KV} {i : Nat} (h : i < l.length) (hb : mapGood l i = false) : mapOk l = false := by
  cases e : mapOk l
  · rfl
  · simp [mapOk] at e
    simp [e i h] at hb
theorem mapGood_eq {l : List KV} {i : Nat} (hlt : i < l.length) (h1 : i - 1 < l.length) : mapGood l i =
    !(bif (bif !within l[i].Key 0 99 then true else !within l[i].Val 0 65535) then true else bif decide ((0 : Int) < i) then decide (l[i].Key ≤ l[i - 1].Key) else false) := by
  unfold mapGood
  rw [List.getD_eq_getElem?_getD, List.getD_eq_getElem?_getD, List.getElem?_eq_getElem hlt, List.getElem?_eq_getElem h1, Option.getD_some, Option.getD_some]
  by_cases h : i = 0
  · subst h; simp
  · have h' : 0 < i := by omega
    have e : decide (l[i - 1].Key < l[i].Key) = !decide (l[i].Key ≤ l[i - 1].Key) := by
      by_cases hh : l[i].Key ≤ l[i - 1].Key
      · simp [hh]
      · simp [hh]; omega
    rw [e]
    cases within l[i].Key 0 99 <;> cases within l[i].Val 0 65535 <;> simp [h, h']
def mapGet (key : Int) : List KV → Int × Bool
  | [] => (0, false)
  | x :: l => if x.Key = key then (x.Val, true) else mapGet key l
def cntPut : List Write → Nat
  | [] => 0
  | x :: l => (if x.Del then 0 else 1) + cntPut l
theorem cntPut_append (a b : List Write) : cntPut (a ++ b) = cntPut a + cntPut b := by
  induction a with
  | nil => simp [cntPut]
  | cons x a ih => simp [cntPut, ih]; omega
theorem cntPut_succ {l : List Write} {i : Nat} (h : i < l.length) : cntPut (l.take (i + 1)) = cntPut (l.take i) + (if l[i].Del then 0 else 1) := by
  rw [List.take_succ_eq_append_getElem h, cntPut_append]; simp [cntPut]
theorem cntPut_le (l : List Write) (i : Nat) : cntPut (l.take i) ≤ i := by
  induction i with
  | zero => simp [cntPut]
  | succ i ih =>
    by_cases h : i < l.length
    · rw [cntPut_succ h]; split <;> omega
    · rw [List.take_of_length_le (by omega)]; rw [List.take_of_length_le (by omega)] at ih; omega
def writeOf (l : List Write) (key : Int) : Write × Bool := firstF (fun x => x.Key == key) ⟨0, false, 0⟩ l
theorem writeOf_none {l : List Write} {key : Int} (h : ∀ j (hj : j < l.length), (l[j].Key == key) = false) : writeOf l key = (⟨0, false, 0⟩, false) := firstF_none h
theorem writeOf_some {l : List Write} {key : Int} {i : Nat} (hi : i < l.length) (hp : (l[i].Key == key) = true) (h : ∀ j (hj : j < l.length), j < i → (l[j].Key == key) = false) : writeOf l key = (l[i], true) := firstF_some hi hp h
def stepWords : List ByteArray := [⟨#[112, 105, 110]⟩, ⟨#[110, 101, 120, 116]⟩, ⟨#[104, 101, 97, 100]⟩, ⟨#[119, 97, 108, 107]⟩, ⟨#[109, 97, 114, 107]⟩, ⟨#[99, 104, 101, 99, 107]⟩, ⟨#[97, 108, 108, 111, 99]⟩, ⟨#[108, 111, 99, 107]⟩, ⟨#[118, 97, 108, 105, 100]⟩, ⟨#[102, 105, 110, 100]⟩, ⟨#[115, 116, 101, 112]⟩, ⟨#[99, 117, 116]⟩, ⟨#[102, 105, 108, 108]⟩, ⟨#[108, 105, 110, 107]⟩, ⟨#[117, 110, 108, 111, 99, 107]⟩, ⟨#[114, 101, 116, 105, 114, 101]⟩, ⟨#[117, 110, 100, 111]⟩, ⟨#[100, 114, 111, 112]⟩, ⟨#[117, 110, 112, 105, 110]⟩, ⟨#[116, 101, 108, 108]⟩, ⟨#[97, 100, 118, 97, 110, 99, 101]⟩, ⟨#[99, 111, 108, 108, 101, 99, 116]⟩]
def stepWord (x : Int) : ByteArray := if within x 0 21 = true then stepWords.getD x.toNat ⟨#[]⟩ else ⟨#[]⟩
theorem stepWord_get {x : Int} {d : Leaf} (h : within x 0 21 = true) : (stepWords.map fun w => Leaf.dat (.str w)).getD x.toNat d = Leaf.dat (.str (stepWord x)) := by
  have h2 : x.toNat < stepWords.length := by
    simp only [within, decide_eq_true_eq] at h
    show x.toNat < 22
    omega
  unfold stepWord
  rw [if_pos h, List.getD_eq_getElem?_getD, List.getD_eq_getElem?_getD, List.getElem?_map, List.getElem?_eq_getElem h2]
  rfl
theorem stepWord_get2 {x : Int} (h : within x 0 21 = true) : ((stepWords.map fun w => [D.str w]).getD x.toNat []).getD 0 default = D.str (stepWord x) := by
  have h2 : x.toNat < stepWords.length := by
    simp only [within, decide_eq_true_eq] at h
    show x.toNat < 22
    omega
  unfold stepWord
  rw [if_pos h, List.getD_eq_getElem?_getD (l := stepWords), List.getD_eq_getElem?_getD (l := List.map _ _), List.getElem?_map, List.getElem?_eq_getElem h2]
  rfl
theorem stepWord_flat {x : Int} (h : within x 0 21 = true) (d : D) (hd : d ∈ (stepWords.map fun w => [D.str w]).getD x.toNat []) : d.flat = true := by
  have h2 : x.toNat < stepWords.length := by
    simp only [within, decide_eq_true_eq] at h
    show x.toNat < 22
    omega
  rw [List.getD_eq_getElem?_getD, List.getElem?_map, List.getElem?_eq_getElem h2] at hd
  simp at hd
  subst hd
  rfl
def seenPut (l : List Seen) (b v : Int) : List Seen × Bool := if (firstF (fun x => x.Bkt == b) ⟨0, 0⟩ l).2 then (l, (firstF (fun x => x.Bkt == b) ⟨0, 0⟩ l).1.Ver == v) else (l ++ [⟨b, v⟩], true)
theorem seenPut_none {l : List Seen} {b v : Int} (h : ∀ j (hj : j < l.length), (l[j].Bkt == b) = false) : seenPut l b v = (l ++ [⟨b, v⟩], true) := by
  unfold seenPut; rw [firstF_none (p := fun x : Seen => x.Bkt == b) h]; rfl
theorem seenPut_some {l : List Seen} {b v : Int} {i : Nat} (hi : i < l.length) (hp : (l[i].Bkt == b) = true) (h : ∀ j (hj : j < l.length), j < i → (l[j].Bkt == b) = false) : seenPut l b v = (l, l[i].Ver == v) := by
  unfold seenPut; rw [firstF_some (p := fun x : Seen => x.Bkt == b) hi hp h]; rfl
theorem seenPut_len (l : List Seen) (b v : Int) : (seenPut l b v).1.length ≤ l.length + 1 := by
  unfold seenPut; split <;> simp
def mapDel (l : List KV) (key : Int) : List KV := l.filter fun x => !(x.Key == key)
theorem mapDel_len (l : List KV) (key : Int) : (mapDel l key).length ≤ l.length := List.length_filter_le ..
theorem mapDel_step {l : List KV} {key : Int} {i : Nat} (hi : i < l.length) : mapDel (l.take (i + 1)) key = if l[i].Key == key then mapDel (l.take i) key else mapDel (l.take i) key ++ [l[i]] := by
  unfold mapDel
  rw [List.take_succ_eq_append_getElem hi, List.filter_append, List.filter_cons]
  cases l[i].Key == key <;> simp
def insF {α : Type} (p : α → Bool) (y : α) : List α → List α
  | [] => [y]
  | a :: m => if p a then y :: a :: m else a :: insF p y m
theorem insF_len {α : Type} (p : α → Bool) (y : α) : ∀ m : List α, (insF p y m).length = m.length + 1
  | [] => rfl
  | a :: m => by
    unfold insF
    split
    · simp
    · simp [insF_len p y m]
theorem insF_not {α : Type} {p : α → Bool} {y : α} : ∀ {m : List α}, m.any p = false → insF p y m = m ++ [y]
  | [], _ => rfl
  | a :: m, h => by
    simp only [List.any_cons, Bool.or_eq_false_iff] at h
    unfold insF
    rw [h.1, insF_not h.2]
    rfl
theorem insF_old {α : Type} {p : α → Bool} {y x : α} : ∀ {m : List α}, m.any p = true → insF p y (m ++ [x]) = insF p y m ++ [x]
  | [], h => by simp at h
  | a :: m, h => by
    rw [List.cons_append]
    unfold insF
    cases ha : p a with
    | true => simp
    | false =>
      simp only [List.any_cons, ha, Bool.false_or] at h
      simp [insF_old h]
theorem insF_new {α : Type} {p : α → Bool} {y x : α} (hx : p x = true) : ∀ {m : List α}, m.any p = false → insF p y (m ++ [x]) = m ++ [y, x]
  | [], _ => by simp [insF, hx]
  | a :: m, h => by
    simp only [List.any_cons, Bool.or_eq_false_iff] at h
    rw [List.cons_append]
    unfold insF
    rw [h.1, insF_new hx h.2]
    simp
theorem insF_end {α : Type} {p : α → Bool} {y : α} {m : List α} (h : ∀ j (hj : j < m.length), p m[j] = false) : m.take m.length ++ y :: m.drop m.length = insF p y m := by
  rw [insF_not]
  · simp
  · rw [List.any_eq_false]
    intro x hx
    obtain ⟨j, hj, rfl⟩ := List.getElem_of_mem hx
    simp [h j hj]
theorem insF_at {α : Type} {p : α → Bool} {y : α} : ∀ {m : List α} {i : Nat} (hi : i < m.length), p m[i] = true → (∀ j (hj : j < m.length), j < i → p m[j] = false) → m.take i ++ y :: m.drop i = insF p y m
  | [], i, hi, _, _ => by simp at hi
  | a :: m, 0, _, hp, _ => by
    have hp' : p a = true := hp
    simp [insF, hp']
  | a :: m, i + 1, hi, hp, h => by
    have h0 : p a = false := h 0 (by simp) (by omega)
    have := insF_at (p := p) (y := y) (m := m) (i := i) (by simpa using hi) (by simpa using hp) (fun j hj hji => h (j + 1) (by simpa using hj) (by omega))
    unfold insF
    rw [h0]
    simp only [List.take_succ_cons, List.drop_succ_cons, List.cons_append, Bool.false_eq_true, if_false]
    rw [this]
def mapPut (l : List KV) (key : Int) (val : Int) : List KV := insF (fun x : KV => decide (key < x.Key)) ⟨key, val⟩ (mapDel l key)
theorem mapPut_len (l : List KV) (key : Int) (val : Int) : (mapPut l key val).length ≤ l.length + 1 := by
  unfold mapPut
  rw [insF_len]
  have := mapDel_len l key
  omega
def mapPutPre (l : List KV) (key : Int) (val : Int) : List KV := if (mapDel l key).any (fun x : KV => decide (key < x.Key)) then mapPut l key val else mapDel l key
theorem mapPutPre_len (l : List KV) (key : Int) (val : Int) : (mapPutPre l key val).length ≤ l.length + 1 := by
  unfold mapPutPre
  have h1 := mapPut_len l key val
  have h2 := mapDel_len l key
  split <;> omega
theorem mapPut_skip {l : List KV} {key : Int} {val : Int} {i : Nat} (hi : i < l.length) (h : (l[i].Key == key) = true) : mapPutPre (l.take (i + 1)) key val = mapPutPre (l.take i) key val ∧ (mapDel (l.take (i + 1)) key).any (fun x : KV => decide (key < x.Key)) = (mapDel (l.take i) key).any (fun x : KV => decide (key < x.Key)) := by
  unfold mapPutPre mapPut
  rw [mapDel_step hi, if_pos h]
  exact ⟨rfl, rfl⟩
theorem mapPut_old {l : List KV} {key : Int} {val : Int} {i : Nat} (hi : i < l.length) (h : (l[i].Key == key) = false) (hd : (mapDel (l.take i) key).any (fun x : KV => decide (key < x.Key)) = true) : mapPutPre (l.take (i + 1)) key val = mapPutPre (l.take i) key val ++ [l[i]] ∧ (mapDel (l.take (i + 1)) key).any (fun x : KV => decide (key < x.Key)) = true := by
  unfold mapPutPre mapPut
  have hs := mapDel_step (key := key) hi
  rw [if_neg (by simp [h])] at hs
  rw [hs, hd, List.any_append, hd, insF_old hd]
  simp
theorem mapPut_new {l : List KV} {key : Int} {val : Int} {i : Nat} (hi : i < l.length) (h : (l[i].Key == key) = false) (hd : (mapDel (l.take i) key).any (fun x : KV => decide (key < x.Key)) = false) (hx : key < l[i].Key) : mapPutPre (l.take (i + 1)) key val = mapPutPre (l.take i) key val ++ [⟨key, val⟩] ++ [l[i]] ∧ (mapDel (l.take (i + 1)) key).any (fun x : KV => decide (key < x.Key)) = true := by
  have hx' : (fun x : KV => decide (key < x.Key)) l[i] = true := by simpa using hx
  unfold mapPutPre mapPut
  have hs := mapDel_step (key := key) hi
  rw [if_neg (by simp [h])] at hs
  rw [hs, hd, List.any_append, hd, insF_new (p := (fun x : KV => decide (key < x.Key))) hx' hd]
  simp [hx]
theorem mapPut_low {l : List KV} {key : Int} {val : Int} {i : Nat} (hi : i < l.length) (h : (l[i].Key == key) = false) (hd : (mapDel (l.take i) key).any (fun x : KV => decide (key < x.Key)) = false) (hx : ¬ key < l[i].Key) : mapPutPre (l.take (i + 1)) key val = mapPutPre (l.take i) key val ++ [l[i]] ∧ (mapDel (l.take (i + 1)) key).any (fun x : KV => decide (key < x.Key)) = false := by
  unfold mapPutPre mapPut
  have hs := mapDel_step (key := key) hi
  rw [if_neg (by simp [h])] at hs
  rw [hs, hd, List.any_append, hd]
  simp [hx]
theorem mapPut_end {l : List KV} {key : Int} {val : Int} : mapPut l key val = if (mapDel l key).any (fun x : KV => decide (key < x.Key)) then mapPutPre l key val else mapPutPre l key val ++ [⟨key, val⟩] := by
  unfold mapPutPre mapPut
  split
  · rfl
  · rename_i h
    rw [insF_not (by simpa using h)]
def writeDel (l : List Write) (key : Int) : List Write := l.filter fun x => !(x.Key == key)
theorem writeDel_len (l : List Write) (key : Int) : (writeDel l key).length ≤ l.length := List.length_filter_le ..
theorem writeDel_step {l : List Write} {key : Int} {i : Nat} (hi : i < l.length) : writeDel (l.take (i + 1)) key = if l[i].Key == key then writeDel (l.take i) key else writeDel (l.take i) key ++ [l[i]] := by
  unfold writeDel
  rw [List.take_succ_eq_append_getElem hi, List.filter_append, List.filter_cons]
  cases l[i].Key == key <;> simp
def writePut (l : List Write) (w : Write) : List Write := insF (fun x : Write => decide (w.Key < x.Key)) ⟨w.Key, w.Del, w.Val⟩ (writeDel l w.Key)
theorem writePut_len (l : List Write) (w : Write) : (writePut l w).length ≤ l.length + 1 := by
  unfold writePut
  rw [insF_len]
  have := writeDel_len l w.Key
  omega
def writePutPre (l : List Write) (w : Write) : List Write := if (writeDel l w.Key).any (fun x : Write => decide (w.Key < x.Key)) then writePut l w else writeDel l w.Key
theorem writePutPre_len (l : List Write) (w : Write) : (writePutPre l w).length ≤ l.length + 1 := by
  unfold writePutPre
  have h1 := writePut_len l w
  have h2 := writeDel_len l w.Key
  split <;> omega
theorem writePut_skip {l : List Write} {w : Write} {i : Nat} (hi : i < l.length) (h : (l[i].Key == w.Key) = true) : writePutPre (l.take (i + 1)) w = writePutPre (l.take i) w ∧ (writeDel (l.take (i + 1)) w.Key).any (fun x : Write => decide (w.Key < x.Key)) = (writeDel (l.take i) w.Key).any (fun x : Write => decide (w.Key < x.Key)) := by
  unfold writePutPre writePut
  rw [writeDel_step hi, if_pos h]
  exact ⟨rfl, rfl⟩
theorem writePut_old {l : List Write} {w : Write} {i : Nat} (hi : i < l.length) (h : (l[i].Key == w.Key) = false) (hd : (writeDel (l.take i) w.Key).any (fun x : Write => decide (w.Key < x.Key)) = true) : writePutPre (l.take (i + 1)) w = writePutPre (l.take i) w ++ [l[i]] ∧ (writeDel (l.take (i + 1)) w.Key).any (fun x : Write => decide (w.Key < x.Key)) = true := by
  unfold writePutPre writePut
  have hs := writeDel_step (key := w.Key) hi
  rw [if_neg (by simp [h])] at hs
  rw [hs, hd, List.any_append, hd, insF_old hd]
  simp
theorem writePut_new {l : List Write} {w : Write} {i : Nat} (hi : i < l.length) (h : (l[i].Key == w.Key) = false) (hd : (writeDel (l.take i) w.Key).any (fun x : Write => decide (w.Key < x.Key)) = false) (hx : w.Key < l[i].Key) : writePutPre (l.take (i + 1)) w = writePutPre (l.take i) w ++ [⟨w.Key, w.Del, w.Val⟩] ++ [l[i]] ∧ (writeDel (l.take (i + 1)) w.Key).any (fun x : Write => decide (w.Key < x.Key)) = true := by
  have hx' : (fun x : Write => decide (w.Key < x.Key)) l[i] = true := by simpa using hx
  unfold writePutPre writePut
  have hs := writeDel_step (key := w.Key) hi
  rw [if_neg (by simp [h])] at hs
  rw [hs, hd, List.any_append, hd, insF_new (p := (fun x : Write => decide (w.Key < x.Key))) hx' hd]
  simp [hx]
theorem writePut_low {l : List Write} {w : Write} {i : Nat} (hi : i < l.length) (h : (l[i].Key == w.Key) = false) (hd : (writeDel (l.take i) w.Key).any (fun x : Write => decide (w.Key < x.Key)) = false) (hx : ¬ w.Key < l[i].Key) : writePutPre (l.take (i + 1)) w = writePutPre (l.take i) w ++ [l[i]] ∧ (writeDel (l.take (i + 1)) w.Key).any (fun x : Write => decide (w.Key < x.Key)) = false := by
  unfold writePutPre writePut
  have hs := writeDel_step (key := w.Key) hi
  rw [if_neg (by simp [h])] at hs
  rw [hs, hd, List.any_append, hd]
  simp [hx]
theorem writePut_end {l : List Write} {w : Write} : writePut l w = if (writeDel l w.Key).any (fun x : Write => decide (w.Key < x.Key)) then writePutPre l w else writePutPre l w ++ [⟨w.Key, w.Del, w.Val⟩] := by
  unfold writePutPre writePut
  split
  · rfl
  · rename_i h
    rw [insF_not (by simpa using h)]
def wr1 (m : List KV) (x : Write) : List KV := if x.Del then mapDel m x.Key else mapPut m x.Key x.Val
def applyWrites (l : List KV) (w : List Write) : List KV := w.foldl wr1 l
theorem wr1_len (m : List KV) (x : Write) : (wr1 m x).length ≤ m.length + 1 := by
  unfold wr1
  have h1 := mapDel_len m x.Key
  have h2 := mapPut_len m x.Key x.Val
  split <;> omega
theorem applyWrites_len (l : List KV) : ∀ w : List Write, (applyWrites l w).length ≤ l.length + w.length := by
  intro w
  induction w generalizing l with
  | nil => simp [applyWrites]
  | cons x w ih =>
    have h := ih (wr1 l x)
    have h1 := wr1_len l x
    have e : applyWrites l (x :: w) = applyWrites (wr1 l x) w := rfl
    rw [e, List.length_cons]
    omega
theorem applyWrites_step {l : List KV} {w : List Write} {i : Nat} (h : i < w.length) : applyWrites l (w.take (i + 1)) = wr1 (applyWrites l (w.take i)) w[i] := by
  unfold applyWrites
  rw [List.take_succ_eq_append_getElem h, List.foldl_append]
  rfl
def cmdDo (l : List KV) (c : Cmd) : List KV × Res :=
  if mapOk l && cmdOk c.Kind c.Key c.Val then
    if c.Kind = 1 then (l, ⟨(mapGet c.Key l).2, (mapGet c.Key l).1⟩)
    else if c.Kind = 2 then (mapPut l c.Key c.Val, ⟨false, 0⟩)
    else if c.Kind = 3 then (mapDel l c.Key, ⟨false, 0⟩)
    else (mapPut l c.Key (((mapGet c.Key l).1 + c.Val) % 65536), ⟨true, ((mapGet c.Key l).1 + c.Val) % 65536⟩)
  else (l, ⟨false, 0⟩)
theorem cmdDo_len (l : List KV) (c : Cmd) : (cmdDo l c).1.length ≤ l.length + 1 := by
  unfold cmdDo
  have h1 := mapPut_len l c.Key c.Val
  have h2 := mapDel_len l c.Key
  have h3 := mapPut_len l c.Key (((mapGet c.Key l).1 + c.Val) % 65536)
  repeat' split
  all_goals simp only <;> omega
theorem mapGet_in (key : Int) : ∀ {l : List KV}, (∀ x ∈ l, 0 ≤ x.Val ∧ x.Val ≤ 65535) → 0 ≤ (mapGet key l).1 ∧ (mapGet key l).1 ≤ 65535
  | [], _ => by simp [mapGet]
  | x :: l, h => by
    unfold mapGet
    split
    · exact h x (by simp)
    · exact mapGet_in key fun y hy => h y (by simp [hy])
theorem mapOk_vals {l : List KV} (h : mapOk l = true) : ∀ x ∈ l, 0 ≤ x.Val ∧ x.Val ≤ 65535 := fun x hx => by
  obtain ⟨j, hj, rfl⟩ := List.getElem_of_mem hx
  simp only [mapOk, List.all_eq_true, List.mem_range] at h
  have := h j hj
  simp only [mapGood, Bool.and_eq_true] at this
  have h2 := this.1.2
  rw [List.getD_eq_getElem?_getD, List.getElem?_eq_getElem hj, Option.getD_some] at h2
  simpa [within] using h2
theorem cmdDo_bad {l : List KV} {c : Cmd} (h : (mapOk l && cmdOk c.Kind c.Key c.Val) = false) : cmdDo l c = (l, ⟨false, 0⟩) := by
  unfold cmdDo; rw [h]; rfl
theorem cmdOk_kind {k x v : Int} (h : cmdOk k x v = true) : (k = 1 ∨ k = 2 ∨ k = 3 ∨ k = 4) ∧ (k = 4 → 0 ≤ v ∧ v ≤ 65535) := by
  simp only [cmdOk, within, Bool.and_eq_true, Bool.or_eq_true, decide_eq_true_eq, beq_iff_eq] at h
  refine ⟨by omega, fun h4 => ?_⟩
  omega
def cmdsGo (l : List KV) (o : List Res) : List Cmd → List KV × List Res
  | [] => (l, o)
  | c :: r => cmdsGo (cmdDo l c).1 (o ++ [(cmdDo l c).2]) r
def cmdsDo (l : List KV) (cs : List Cmd) : List KV × List Res := cmdsGo l [] cs
theorem cmdsGo_len : ∀ (r : List Cmd) (l : List KV) (o : List Res), (cmdsGo l o r).1.length ≤ l.length + r.length ∧ (cmdsGo l o r).2.length = o.length + r.length
  | [], l, o => by simp [cmdsGo]
  | c :: r, l, o => by
    unfold cmdsGo
    have h := cmdsGo_len r (cmdDo l c).1 (o ++ [(cmdDo l c).2])
    have h2 := cmdDo_len l c
    simp at h ⊢
    omega
theorem cmdsDo_len (l : List KV) (cs : List Cmd) : (cmdsDo l cs).1.length ≤ l.length + cs.length ∧ (cmdsDo l cs).2.length = cs.length := by
  have := cmdsGo_len cs l []; simpa [cmdsDo] using this
end Go.Proofs.YtacmmahhlognnaaGreat.Mod
