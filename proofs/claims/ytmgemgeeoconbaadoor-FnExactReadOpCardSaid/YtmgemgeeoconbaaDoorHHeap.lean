/- Contracts: Heap. -/
import Derived.Test.YtmgemgeeoconbaaDoorRows
import Derived.Test.YtmgemgeeoconbaaDoorHTy
import Derived.Test.YtmgemgeeoconbaaDoorAbsTac
import Derived.Test.YtmgemgeeoconbaaDoorAbsData
import Derived.Test.YtmgemgeeoconbaaDoorHFam
import Derived.Test.YtmgemgeeoconbaaDoorHFam2
import Derived.Test.YtmgemgeeoconbaaDoorHNum
import Derived.WalkKit
import Derived.ProofKit
import Derived.OpenShut
namespace Go.Proofs.YtmgemgeeoconbaaDoor.Mod
open Go.Proofs.Tryd Go.Abs Go.Proofs.YtmgemgeeoconbaaDoor.Ty Go.ChangeShapes Go.WideShapes Go.ChangeAt Go.RowKit
set_option linter.unusedSimpArgs false
set_option linter.unusedVariables false
set_option maxHeartbeats 8000000
set_option maxRecDepth 100000
def sizeOf (c : Int) : Int := if c = 0 then 8 else if c = 1 then 16 else if c = 2 then 40 else 0
def strideOf (c : Int) : Int := if c = 0 then 12 else if c = 1 then 20 else if c = 2 then 44 else 0
def perPage (c : Int) : Int := if c = 0 then 4 else if c = 1 then 2 else if c = 2 then 1 else 0
def genAt (s c : Int) : Int := if 0 <= s /\ s <= 23 /\ s % 4 < perPage c then s / 4 * 64 + 8 + s % 4 * strideOf c else -1
def startOf (s c : Int) : Int := if genAt s c < 0 then -1 else genAt s c + 4
theorem genAt_pos {s c : Int} (h1 : 0 <= s) (h2 : s <= 23) (h : s % 4 < perPage c) : genAt s c = s / 4 * 64 + 8 + s % 4 * strideOf c := if_pos ⟨h1, h2, h⟩
theorem genAt_neg {s c : Int} (h : ¬ (0 <= s /\ s <= 23 /\ s % 4 < perPage c)) : genAt s c = -1 := if_neg h
theorem class_cases (c : Int) : c = 0 \/ c = 1 \/ c = 2 \/ (within c 0 2 = false /\ sizeOf c = 0 /\ strideOf c = 0 /\ perPage c = 0) := by
 by_cases h0 : c = 0
 ·exact .inl h0
 by_cases h1 : c = 1
 ·exact .inr (.inl h1)
 by_cases h2 : c = 2
 ·exact .inr (.inr (.inl h2))
 refine .inr (.inr (.inr ⟨?_, ?_, ?_, ?_⟩))
 ·simp [within]; omega
 ·simp [sizeOf, h0, h1, h2]
 ·simp [strideOf, h0, h1, h2]
 ·simp [perPage, h0, h1, h2]
theorem perPage_le (c : Int) : 0 <= perPage c /\ perPage c <= 4 := by
 unfold perPage; repeat' split
 all_goals omega
theorem stride_le (c : Int) : 0 <= strideOf c /\ strideOf c <= 44 := by
 unfold strideOf; repeat' split
 all_goals omega
theorem w_0 : within 0 0 2 = true := rfl
theorem w_1 : within 1 0 2 = true := rfl
theorem w_2 : within 2 0 2 = true := rfl
theorem s_0 : sizeOf 0 = 8 := rfl
theorem s_1 : sizeOf 1 = 16 := rfl
theorem s_2 : sizeOf 2 = 40 := rfl
theorem t_0 : strideOf 0 = 12 := rfl
theorem t_1 : strideOf 1 = 20 := rfl
theorem t_2 : strideOf 2 = 44 := rfl
theorem p_0 : perPage 0 = 4 := rfl
theorem p_1 : perPage 1 = 2 := rfl
theorem p_2 : perPage 2 = 1 := rfl
theorem genAt_bound {s c : Int} (h : 0 <= genAt s c) : 0 <= s /\ s <= 23 /\ (c = 0 \/ c = 1 \/ c = 2) /\ s % 4 < perPage c /\ genAt s c = s / 4 * 64 + 8 + s % 4 * strideOf c /\ genAt s c + 4 + sizeOf c <= 384 := by
 unfold genAt at h ⊢
 split at h
 ·rename_i hc
  obtain ⟨h1, h2, h3⟩ := hc
  rw [if_pos ⟨h1, h2, h3⟩]
  rcases class_cases c with rfl | rfl | rfl | ⟨_, _, _, e⟩
  ·rw [p_0] at h3; rw [t_0, s_0, p_0]; refine ⟨h1, h2, .inl rfl, by omega, rfl, by omega⟩
  ·rw [p_1] at h3; rw [t_1, s_1, p_1]; refine ⟨h1, h2, .inr (.inl rfl), by omega, rfl, by omega⟩
  ·rw [p_2] at h3; rw [t_2, s_2, p_2]; refine ⟨h1, h2, .inr (.inr rfl), by omega, rfl, by omega⟩
  ·rw [e] at h3; omega
 ·omega
def pageOf (s : Int) : Int := if 0 <= s /\ s <= 23 then s / 4 else -1
def indexOf (s : Int) : Int := if 0 <= s /\ s <= 23 then s % 4 else -1
def slotAt (p i : Int) : Int := if 0 <= p /\ p <= 5 /\ 0 <= i /\ i <= 3 then p * 4 + i else -1
theorem slot_cases (s : Int) : (0 <= s /\ s <= 23 /\ within s 0 23 = true) \/ (¬ (0 <= s /\ s <= 23) /\ within s 0 23 = false) := by
 by_cases h : 0 <= s /\ s <= 23
 ·exact .inl ⟨h.1, h.2, by simp [within]; omega⟩
 ·exact .inr ⟨h, by simp [within]; omega⟩
def handleSlot (h : Int) : Int := if handleOk h = true then h % 32 else -1
def handleGen (h : Int) : Int := if handleOk h = true then h / 32 else 0
theorem handleOk_iff (h : Int) : handleOk h = true ↔ 32 <= h /\ h <= 223 /\ h % 32 < 24 := by simp [handleOk, within]; omega
def bytesOk (l : List Int) : Bool := decide ((l.length : Int) <= 1000) && l.all (fun x => within x 0 255)
def loadGo (n : Int) : List Int -> Int
 | [] => n
 | x :: r => loadGo (256 * n + x) r
def loadN (b : List Int) (a w : Nat) : Int := loadGo 0 ((b.drop a).take w)
def isByteL (l : List Int) : Prop := ∀ x ∈ l, 0 <= x /\ x <= 255
theorem bytesOk_iff {l : List Int} (h : bytesOk l = true) : l.length <= 1000 /\ isByteL l := by
 simp only [bytesOk, Bool.and_eq_true, decide_eq_true_eq, List.all_eq_true] at h
 refine ⟨by omega, fun x hx => ?_⟩
 have := h.2 x hx
 simpa [within] using this
theorem loadGo_bound : ∀ (l : List Int) (n : Int) (k : Nat), (∀ x ∈ l, 0 <= x /\ x <= 255) -> 0 <= n -> n + 1 <= 256 ^ k -> 0 <= loadGo n l /\ loadGo n l + 1 <= 256 ^ (k + l.length)
 | [], n, k, _, h0, h1 => by simpa [loadGo] using ⟨h0, h1⟩
 | x :: r, n, k, hl, h0, h1 => by
  have hx := hl x (by simp)
  have := loadGo_bound r (256 * n + x) (k + 1) (fun y hy => hl y (by simp [hy])) (by omega) (by rw [Int.pow_succ]; omega)
  rw [List.length_cons, show k + (r.length + 1) = k + 1 + r.length by omega]
  exact this
theorem pow256 {i : Nat} (h : i <= 7) : (256 : Int) ^ i <= 72057594037927936 /\ (i <= 6 -> (256 : Int) ^ i <= 281474976710656) := by
 have : i = 0 \/ i = 1 \/ i = 2 \/ i = 3 \/ i = 4 \/ i = 5 \/ i = 6 \/ i = 7 := by omega
 rcases this with rfl | rfl | rfl | rfl | rfl | rfl | rfl | rfl
 all_goals decide
theorem loadN_bound {b : List Int} (hb : isByteL b) (a : Nat) {w : Nat} (hw : w <= 7) : 0 <= loadN b a w /\ loadN b a w < 72057594037927936 := by
 have hl : ((b.drop a).take w).length <= 7 := by simp; omega
 have := loadGo_bound ((b.drop a).take w) 0 0 (fun x hx => hb x (List.mem_of_mem_drop (List.mem_of_mem_take hx))) (by omega) (by simp)
 have h2 := (pow256 (i := 0 + ((b.drop a).take w).length) (by omega)).1
 unfold loadN
 omega
def clsAt (h : Heap) (p : Nat) : Int := h.Class.getD p 0
def shapedM (h : Heap) : Bool := ((h.Bytes.length : Int) == 384) && bytesOk h.Bytes && ((h.Class.length : Int) == 6) && h.Class.all (fun c => within c (-1) 2)
theorem shaped_iff {h : Heap} (hs : shapedM h = true) : h.Bytes.length = 384 /\ isByteL h.Bytes /\ h.Class.length = 6 /\ ∀ c ∈ h.Class, -1 <= c /\ c <= 2 := by
 simp only [shapedM, Bool.and_eq_true, beq_iff_eq, List.all_eq_true] at hs
 obtain ⟨⟨⟨h1, h2⟩, h3⟩, h4⟩ := hs
 refine ⟨by omega, (bytesOk_iff h2).2, by omega, fun c hc => ?_⟩
 have := h4 c hc
 simpa [within] using this
def pg (h : Heap) (p : Nat) : List Int := (h.Bytes.drop (p * 64)).take 64
def pageGens (h : Heap) (p : Nat) (c : Int) : Bool := (List.range (perPage c).toNat).all fun i => within (loadN h.Bytes (p * 64 + 8 + i * (strideOf c).toNat) 4) 1 7
def headOkM (h : Heap) (p : Nat) : Bool := (h.Bytes.getD (p * 64) 0 == 171) && (h.Bytes.getD (p * 64 + 1) 0 == clsAt h p) && (h.Bytes.getD (p * 64 + 2) 0 == perPage (clsAt h p)) && ((h.Bytes.drop (p * 64 + 3)).take 5).all (fun x => x == 0)
def pageOkM (h : Heap) (p : Nat) : Bool :=
 bif decide (clsAt h p < 0) then (pg h p).all (fun x => x == 0)
 else headOkM h p && pageGens h p (clsAt h p)
def heapOk (h : Heap) : Bool := shapedM h && (List.range 6).all (pageOkM h)
def slotsOf (l : List SList) : List Int := (l.map (·.Slots)).flatten
def goodSlots (l : List Int) : Bool := l.all (fun x => within x 0 23) && decide l.Nodup
def listsOk (l : Lists) : Bool := decide ((l.Global.length : Int) = 3) && decide ((l.Own.length : Int) = 9) && l.Own.all (fun s => decide ((s.Slots.length : Int) <= 2)) && goodSlots (slotsOf l.Global ++ slotsOf l.Own)
def onListM (l : Lists) (x : Int) : Bool := (slotsOf l.Global ++ slotsOf l.Own).any fun y => y == x
theorem slotsOf_drop {l : List SList} {i : Nat} (h : i < l.length) : slotsOf (l.drop i) = l[i].Slots ++ slotsOf (l.drop (i + 1)) := by
 unfold slotsOf
 rw [List.drop_eq_getElem_cons h, List.map_cons, List.flatten_cons]
theorem slotsOf_len (l : List SList) : (slotsOf l).length = (l.map sizSList).sum := by
 induction l with
 | nil => rfl
 | cons x l ih => simp only [slotsOf, List.map_cons, List.flatten_cons, List.length_append, List.sum_cons] at ih ⊢; rw [ih]; rfl
theorem pg_len {h : Heap} {p : Nat} (hl : h.Bytes.length = 384) (hp : p < 6) : (pg h p).length = 64 := by simp [pg, hl]; omega
theorem pg_get {h : Heap} {p k : Nat} (hl : h.Bytes.length = 384) (hp : p < 6) (hk : k < 64) : ((pg h p).map encI).getD k [] = [.int .i64 (h.Bytes.getD (p * 64 + k) 0)] := by
 have h1 : k < (pg h p).length := by rw [pg_len hl hp]; exact hk
 have h2 : p * 64 + k < h.Bytes.length := by omega
 rw [getD_map h1, encI]
 simp [pg, List.getD_eq_getElem?_getD, h2]
theorem pg_sub {h : Heap} {p : Nat} : (((pg h p).map encI).drop 3).take 5 = ((h.Bytes.drop (p * 64 + 3)).take 5).map encI := by
 simp only [pg, <- List.map_drop, <- List.map_take]
 congr 1
 rw [List.drop_take, List.drop_drop, List.take_take]
 rfl
theorem pg_load {h : Heap} {p a w : Nat} (ha : a + w <= 64) : loadN (pg h p) a w = loadN h.Bytes (p * 64 + a) w := by
 unfold loadN pg
 congr 1
 rw [List.drop_take, List.drop_drop, List.take_take]
 congr 1
 omega
theorem pg_byte {h : Heap} {p : Nat} (hb : isByteL h.Bytes) : isByteL (pg h p) := fun x hx => hb x (List.mem_of_mem_drop (List.mem_of_mem_take hx))
theorem cls_mem {h : Heap} {p : Nat} (hs : shapedM h = true) (hp : p < 6) : -1 <= clsAt h p /\ clsAt h p <= 2 := by
 obtain ⟨_, _, h3, h4⟩ := shaped_iff hs
 have : p < h.Class.length := by omega
 have e : clsAt h p = h.Class[p] := by simp [clsAt, List.getD_eq_getElem?_getD, this]
 rw [e]
 exact h4 _ (List.getElem_mem this)
theorem cls_get {h : Heap} {p : Nat} (hl : h.Class.length = 6) (hp : p < 6) : (h.Class.map encI).getD p [] = [.int .i64 (clsAt h p)] := by
 have : p < h.Class.length := by omega
 rw [getD_map this, encI]
 simp [clsAt, List.getD_eq_getElem?_getD, this]
theorem page_nums (c : Int) : ∃ k t : Nat, perPage c = k /\ strideOf c = t /\ k <= 4 /\ t <= 44 /\ ∀ i, i < k -> i * t + 12 <= 64 := by
 rcases class_cases c with rfl | rfl | rfl | ⟨_, _, e1, e2⟩
 ·exact ⟨4, 12, p_0, t_0, by omega, by omega, fun i _ => by omega⟩
 ·exact ⟨2, 20, p_1, t_1, by omega, by omega, fun i _ => by omega⟩
 ·exact ⟨1, 44, p_2, t_2, by omega, by omega, fun i _ => by omega⟩
 ·exact ⟨0, 0, e2, e1, by omega, by omega, fun i _ => by omega⟩
theorem pageGens_true {h : Heap} {p : Nat} {c : Int} {k t : Nat} (hk : perPage c = k) (ht : strideOf c = t) (ha : ∀ j, j < k -> within (loadN h.Bytes (p * 64 + 8 + j * t) 4) 1 7 = true) : pageGens h p c = true := by
 unfold pageGens
 rw [hk, ht]
 simp only [Int.toNat_natCast, List.all_eq_true, List.mem_range]
 exact ha
theorem pageGens_false {h : Heap} {p : Nat} {c : Int} {k t i : Nat} (hk : perPage c = k) (ht : strideOf c = t) (hi : i < k) (ha : within (loadN h.Bytes (p * 64 + 8 + i * t) 4) 1 7 = false) : pageGens h p c = false := by
 unfold pageGens
 rw [hk, ht]
 simp only [Int.toNat_natCast, List.all_eq_false, List.mem_range]
 exact ⟨i, hi, by rw [ha]; decide⟩
theorem byte_get {b : List Int} {k : Nat} (hk : k < b.length) : (b.map encI).getD k [] = [.int .i64 (b.getD k 0)] := by
 rw [getD_map hk, encI]
 simp [List.getD_eq_getElem?_getD, hk]
theorem sub_get {b : List Int} {a n j : Nat} (h : a + n <= b.length) (hj : j < n) : ((b.drop a).take n)[j]? = some (b.getD (a + j) 0) := by
 have : a + j < b.length := by omega
 simp [List.getElem?_take, hj, List.getD_eq_getElem?_getD, this]
theorem sub_all {b : List Int} {a n : Nat} (h : a + n <= b.length) (ha : ∀ j, j < n -> b.getD (a + j) 0 = 0) : ((b.drop a).take n).all (fun x => x == 0) = true := by
 rw [List.all_eq_true]
 intro x hx
 obtain ⟨j, hj, rfl⟩ := List.mem_iff_getElem.1 hx
 have hn : j < n := by simp at hj; omega
 have := sub_get h hn
 rw [List.getElem?_eq_getElem hj] at this
 rw [Option.some.inj this, ha j hn]; rfl
theorem sub_not {b : List Int} {a n j : Nat} (h : a + n <= b.length) (hj : j < n) (ha : b.getD (a + j) 0 ≠ 0) : ((b.drop a).take n).all (fun x => x == 0) = false := by
 rw [List.all_eq_false]
 exact ⟨b.getD (a + j) 0, List.mem_of_getElem? (sub_get h hj), by simpa using ha⟩
theorem slot_gen {p i : Nat} {c : Int} {k t : Nat} (hp : p < 6) (hk : perPage c = k) (ht : strideOf c = t) (hk4 : k <= 4) (hi : i < k) : genAt ((p : Int) * 4 + i) c = ((p * 64 + 8 + i * t : Nat) : Int) := by
 have e1 : ((p : Int) * 4 + i) % 4 = i := by omega
 have e2 : ((p : Int) * 4 + i) / 4 = p := by omega
 rw [genAt_pos (by omega) (by omega) (by rw [e1, hk]; omega), e1, e2, ht]
 simp only [Int.natCast_add, Int.natCast_mul]
 rfl
theorem heapOk_true {h : Heap} (hs : shapedM h = true) (ha : ∀ j, j < 6 -> pageOkM h j = true) : heapOk h = true := by
 simp only [heapOk, hs, Bool.true_and, List.all_eq_true, List.mem_range]
 exact ha
theorem heapOk_false {h : Heap} {i : Nat} (hi : i < 6) (ha : pageOkM h i = false) : heapOk h = false := by
 have : (List.range 6).all (pageOkM h) = false := by
  simp only [List.all_eq_false, List.mem_range]
  exact ⟨i, hi, by rw [ha]; decide⟩
 simp only [heapOk, this, Bool.and_false]
theorem heapOk_shaped {h : Heap} (ho : heapOk h = true) : shapedM h = true := by
 simp only [heapOk, Bool.and_eq_true] at ho; exact ho.1
def clsN (h : Heap) (s : Int) : Int := clsAt h (s / 4).toNat
def classInM (h : Heap) (s : Int) : Int := if 0 <= s /\ s <= 23 /\ s % 4 < perPage (clsN h s) then clsN h s else -1
theorem classInM_out {h : Heap} {s : Int} (hn : ¬ (0 <= s /\ s <= 23)) : classInM h s = -1 := if_neg (fun h => hn ⟨h.1, h.2.1⟩)
theorem classInM_no {h : Heap} {s : Int} (hn : ¬ s % 4 < perPage (clsN h s)) : classInM h s = -1 := if_neg (fun h => hn h.2.2)
theorem classInM_yes {h : Heap} {s : Int} (h0 : 0 <= s) (h1 : s <= 23) (hn : s % 4 < perPage (clsN h s)) : classInM h s = clsN h s := if_pos ⟨h0, h1, hn⟩
theorem perPage_neg {c : Int} (h : c < 0) : perPage c = 0 := by
 rcases class_cases c with rfl | rfl | rfl | ⟨_, _, _, e⟩
 ·omega
 ·omega
 ·omega
 ·exact e
theorem genAt_lt {s c : Int} (h0 : 0 <= s) (h1 : s <= 23) : (genAt s c < 0) ↔ ¬ s % 4 < perPage c := by
 have ht := stride_le c
 constructor
 ·intro hg hn
  rw [genAt_pos h0 h1 hn] at hg
  have : 0 <= s % 4 * strideOf c := Int.mul_nonneg (by omega) ht.1
  omega
 ·intro hn
  rw [genAt_neg (fun h => hn h.2.2)]
  decide
theorem slot_nat {s : Int} (h0 : 0 <= s) (h1 : s <= 23) : ∃ n : Nat, s = n /\ n < 24 /\ (s / 4).toNat = n / 4 := ⟨s.toNat, by omega, by omega, by omega⟩
def classAtM (h : Heap) (s : Int) : Int := if shapedM h = true then classInM h s else -1
def genInM (h : Heap) (s : Int) : Int := loadN h.Bytes (genAt s (classInM h s)).toNat 4
def genOfM (h : Heap) (s : Int) : Int := if classAtM h s < 0 then 0 else genInM h s
theorem clsN_bound {h : Heap} {s : Int} (hs : shapedM h = true) (h0 : 0 <= s) (h1 : s <= 23) : -1 <= clsN h s /\ clsN h s <= 2 := cls_mem hs (by omega)
theorem classInM_bound {h : Heap} {s : Int} (hs : shapedM h = true) (hc : 0 <= classInM h s) : 0 <= s /\ s <= 23 /\ s % 4 < perPage (classInM h s) /\ classInM h s <= 2 /\ 0 <= genAt s (classInM h s) /\ genAt s (classInM h s) + 4 + sizeOf (classInM h s) <= 384 := by
 unfold classInM at hc ⊢
 split at hc
 ·rename_i hx
  rw [if_pos hx]
  have hb := clsN_bound hs hx.1 hx.2.1
  have hg : 0 <= genAt s (clsN h s) := by
   have : ¬ genAt s (clsN h s) < 0 := fun hy => (genAt_lt hx.1 hx.2.1).1 hy hx.2.2
   omega
  exact ⟨hx.1, hx.2.1, hx.2.2, hb.2, hg, (genAt_bound hg).2.2.2.2.2⟩
 ·omega
theorem sizeOf_pos (c : Int) : 0 <= sizeOf c /\ sizeOf c <= 40 := by
 unfold sizeOf; repeat' split
 all_goals omega
end Go.Proofs.YtmgemgeeoconbaaDoor.Mod
