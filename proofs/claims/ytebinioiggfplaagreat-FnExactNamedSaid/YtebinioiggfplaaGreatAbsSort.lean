/- slices.Sort and slices.Compact of integers: the library's own contracts, as contracts over abstract values. Own work. -/
import Derived.Test.YtebinioiggfplaaGreatAbsEval
import Derived.Shelf.Sort.Plain
import Derived.Shelf.Slices.CompactI
import Derived.Shelf.Slices.In.SortNone
import Derived.Lib.RowBridge
namespace Go.Abs
set_option linter.unusedVariables false
set_option linter.unusedSimpArgs false

def intRow (z : Int) : List D := [D.int .i64 z]

theorem repL_ints {w : World} : ∀ {zs : List Int} {vs : List Value} {S : List Nat}, RepL w (zs.map intRow).flatten vs S -> vs = zs.map (Value.int .i64) /\ S = []
 | [], vs, S, h => by cases h; exact ⟨rfl, rfl⟩
 | z :: zs, vs, S, h => by
  have h : RepL w (D.int .i64 z :: (zs.map intRow).flatten) vs S := h
  cases h with
  | cons h1 h2 =>
   cases h1
   obtain ⟨e1, e2⟩ := repL_ints h2
   subst e1; subst e2
   exact ⟨rfl, rfl⟩

theorem ints_repL (w : World) : ∀ (zs : List Int), RepL w (zs.map intRow).flatten (zs.map (Value.int .i64)) []
 | [] => .nil
 | z :: zs => by
  have := RepL.cons (Rep.int (w := w) .i64 z) (ints_repL w zs)
  exact this

theorem ints_repL' (w : World) : ∀ (zs : List Int), RepL w (zs.map (D.int .i64)) (zs.map (Value.int .i64)) []
 | [] => .nil
 | z :: zs => by
  have := RepL.cons (Rep.int (w := w) .i64 z) (ints_repL' w zs)
  exact this

theorem putCells_list (d c : Array Value) (enc : Int -> Value) (ys : List Int) (h : ys.length <= c.size) : (Go.Sort.putCells enc 0 ys.toArray c).toList = ys.map enc ++ c.toList.drop ys.length := by
 apply List.ext_getElem?
 intro k
 rw [Array.getElem?_toList]
 unfold Go.Sort.putCells
 rw [Array.getElem?_mapIdx]
 rcases Nat.lt_or_ge k ys.length with hk | hk
 ·rw [List.getElem?_append_left (by simpa using hk), List.getElem?_map, List.getElem?_eq_getElem hk, Array.getElem?_eq_getElem (by omega)]
  simp only [Option.map_some]
  rw [if_pos ⟨Nat.zero_le _, by simpa using hk⟩]
  rw [Nat.sub_zero, getElem!_pos _ k (by simpa using hk)]
  simp
 ·rw [List.getElem?_append_right (by simpa using hk), List.getElem?_drop, List.length_map, show ys.length + (k - ys.length) = k by omega, Array.getElem?_toList]
  cases c[k]? with
  | none => rfl
  | some x =>
   simp only [Option.map_some]
   rw [if_neg (by simp; omega)]

theorem ints_cells {C : Ctx} {φ : Nat -> List Nat} {o : Nat} {zs : List Int} (h : ObjRel C φ o) (e : C.ob o = .vec 1 true (zs.map intRow)) :
  zs.length <= (C.β o).cap /\ ((φ o = [] /\ zs = [] /\ (C.β o).cap = 0) \/ ∃ b T E, ∃ vs : Array Value, (C.β o).base = some ⟨b, 0, none⟩ /\ C.w.heap[b]? = some (.cells vs T (0, 0)) /\ vs.size = (C.β o).cap /\
   vs.toList.take zs.length = zs.map (Value.int .i64) /\ (∃ ds, RepL C.w ds (vs.toList.drop zs.length) []) /\ φ o = b :: E) := by
 unfold ObjRel at h
 rw [e] at h
 obtain ⟨h1, h2, h3⟩ := h
 rw [List.length_map] at h2
 refine ⟨h2, ?_⟩
 rcases h3 with ⟨a1, a2⟩ | ⟨b, T, S, E, vs, a1, a2, ⟨a3, ds, a4⟩, a5, a6, a7⟩
 ·exact .inl ⟨a1, List.eq_nil_of_length_eq_zero (by omega), a2⟩
 ·rw [List.length_map, Nat.mul_one] at a4 a5
  exact .inr ⟨b, T, E, vs, a1, a2, by rw [a3, Nat.mul_one], (repL_ints a5).1, ⟨ds, a4⟩, a6⟩

theorem ints_holds {w : World} {b : Nat} {T : TypeId} {vs : Array Value} {zs : List Int} (h : w.heap[b]? = some (.cells vs T (0, 0))) (ht : vs.toList.take zs.length = zs.map (Value.int .i64)) :
  Go.Sort.Holds (Value.int .i64) w b 0 zs.toArray := fun j hj => by
 have hj : j < zs.length := by simpa using hj
 rw [Nat.zero_add]
 refine ⟨?_, frozen_of_heap h⟩
 rw [cell_of_heap h, <- Array.getElem?_toList]
 have : (vs.toList.take zs.length)[j]? = vs.toList[j]? := by rw [List.getElem?_take, if_pos hj]
 rw [<- this, ht, List.getElem?_map, List.getElem?_eq_getElem hj, getElem!_pos _ j (by simpa using hj)]
 simp

theorem put_heap {w : World} {b n : Nat} {T : TypeId} {vs : Array Value} (h : w.heap[b]? = some (.cells vs T (0, 0))) (d : Array Int) :
  (Go.Sort.putRow (Value.int .i64) (Go.Sort.ahead w n) b 0 d).heap[b]? = some (.cells (Go.Sort.putCells (Value.int .i64) 0 d vs) T (0, 0)) /\
  ∀ k, k ≠ b -> (Go.Sort.putRow (Value.int .i64) (Go.Sort.ahead w n) b 0 d).heap[k]? = w.heap[k]? := by
 unfold Go.Sort.putRow Go.Sort.mapBlock
 refine ⟨?_, fun k hk => ?_⟩
 ·simp only [Array.getElem?_modify, if_true, Go.Sort.heap_ahead, h, Option.map_some, Go.Sort.onCells]
 ·simp only [Array.getElem?_modify, if_neg (Ne.symm hk), Go.Sort.heap_ahead]

theorem Ctr.sortInts {P : Program} {ρ : Go.Shelf.Ren} (L : Go.Proofs.Lays.n189 P ρ) (zs : List Int) (hl : zs.length <= 16777216) :
  Ctr P (ρ.f 189) [.one (.own 0)] [.vec 1 true (zs.map intRow)] (.tup []) [.vec 1 true ((zs.mergeSort fun x y => decide (x <= y)).map intRow)] where
 clean := fun v hv => by simp at hv
 sep := by simp [AObj.Sep]
 len := by simp
 comp := fun o ho => by
  have : o = 0 := by simpa using ho
  subst this
  exact ⟨rfl, by simp [Objs]⟩
 calls := fun w β φ vs hor ha => by
  obtain ⟨hs, ha⟩ := ha
  obtain ⟨v, hv, _, hp⟩ := ha 0 _ rfl
  have hvs : vs = #[v] := by
   have hs : vs.size = 1 := hs
   apply Array.ext_getElem?
   intro k
   cases k with
   | zero => rw [hv]; rfl
   | succ k => rw [Array.getElem?_eq_none (by omega), Array.getElem?_eq_none (by simp)]
  subst hvs
  have hp : v = .slice (β 0).base (zs.map intRow).length (β 0).cap := hp
  rw [List.length_map] at hp
  obtain ⟨hcap, hcs⟩ := ints_cells (hor.objs 0) (zs := zs) rfl
  have hdead : ∀ o, o ≠ 0 -> φ o = [] := fun o ho => by
   have := hor.objs o
   unfold ObjRel at this
   rw [show (lctx w β φ [.vec 1 true (zs.map intRow)]).ob o = AObj.dead by
    show List.getD _ o AObj.dead = _
    cases o with
    | zero => exact absurd rfl ho
    | succ o => rfl] at this
   exact this
  generalize hys : (zs.mergeSort fun x y => decide (x <= y)) = ys
  have hyl : ys.length = zs.length := by rw [<- hys, List.length_mergeSort]
  by_cases h0 : zs = []
  ·subst h0
   have : ys = [] := List.eq_nil_of_length_eq_zero hyl
   subst this
   rw [hp]
   refine (Go.Proofs.Any.slices_Sort_int_none L _ _ _).mono ?_
   rintro e w' ⟨rfl, rfl⟩
   exact ⟨_, β, φ, rfl, hor, fun _ _ => rfl, fun o b hb => .inr ⟨o, hb⟩, ⟨#[], rfl, rfl, fun j a h => by simp at h⟩, Frm.refl _ _⟩
  ·rcases hcs with ⟨_, h, _⟩ | ⟨b, T, E, cs, hb, hh, hsz, ht, ⟨ds, hds⟩, hφ⟩
   ·exact absurd h h0
   have hb : (β 0).base = some ⟨b, 0, none⟩ := hb
   have hh : w.heap[b]? = some (.cells cs T (0, 0)) := hh
   have hsz : cs.size = (β 0).cap := hsz
   have hcap : zs.length <= (β 0).cap := hcap
   rw [hp, hb]
   refine (Go.Proofs.Any.slices_Sort_int L b 0 (β 0).cap zs w (ints_holds hh ht) (lt_of_heap hh) (by omega)).mono ?_
   rintro e w' ⟨rfl, n, os, rfl⟩
   rw [hys]
   obtain ⟨p1, p2⟩ := put_heap (n := n) hh ys.toArray
   have hbl : b < w.heap.size := lt_of_heap hh
   have hsize : w.heap.size <= (Go.Sort.grow (Go.Sort.putRow (Value.int .i64) (Go.Sort.ahead w n) b 0 ys.toArray) os).heap.size := by simp
   have hold : ∀ k, k < w.heap.size -> (Go.Sort.grow (Go.Sort.putRow (Value.int .i64) (Go.Sort.ahead w n) b 0 ys.toArray) os).heap[k]? = (Go.Sort.putRow (Value.int .i64) (Go.Sort.ahead w n) b 0 ys.toArray).heap[k]? := fun k hk => Go.Sort.heap_grow_old _ _ (by simpa using hk)
   have hpl := putCells_list #[] cs (Value.int .i64) ys (by omega)
   refine ⟨_, β, φ, rfl, ⟨fun o => ?_, hor.nodup, hor.disj, fun o x hx => Nat.lt_of_lt_of_le (hor.fp o x hx) hsize⟩, fun _ _ => rfl, fun o b hb => .inr ⟨o, hb⟩, ⟨#[], rfl, rfl, fun j a h => by simp at h⟩, ⟨rfl, rfl, rfl, hsize, fun k hk hx => ?_⟩⟩
   ·by_cases ho : o = 0
    ·subst ho
     unfold ObjRel
     show _ /\ _ /\ _
     refine ⟨by simp [intRow], by rw [List.length_map, hyl]; exact hcap, .inr ⟨b, T, [], E, _, hb, (hold b hbl).trans p1, ⟨?_, ds, ?_⟩, ?_, hφ, by simp, by simp, ?_⟩⟩
     ·rw [Nat.mul_one]
      show (Go.Sort.putCells _ _ _ _).size = (β 0).cap
      rw [<- hsz]; simp [Go.Sort.putCells]
     ·rw [List.length_map, Nat.mul_one, hpl, List.drop_append_of_le_length (by simp), show ys.length = (ys.map (Value.int .i64)).length by simp, List.drop_length, List.nil_append, List.length_map, hyl]
      exact hds.frm0 hsize
     ·rw [List.length_map, Nat.mul_one, hpl, List.take_append_of_le_length (by simp), show ys.length = (ys.map (Value.int .i64)).length by simp, List.take_length]
      exact ints_repL _ ys
     ·rw [List.length_map, Nat.mul_one, hpl, List.take_append_of_le_length (by simp), show ys.length = (ys.map (Value.int .i64)).length by simp, List.take_length]
      exact OwnL.of_nil (ints_repL _ ys)
    ·unfold ObjRel
     rw [show (lctx _ β φ [.vec 1 true (ys.map intRow)]).ob o = AObj.dead by
      show List.getD _ o AObj.dead = _
      cases o with
      | zero => exact absurd rfl ho
      | succ o => rfl]
     exact hdead o ho
   ·rw [hold k hk, p2 k (fun e => hx ⟨0, by rw [hφ, e]; simp⟩)]

theorem Ctr.compactInts {P : Program} {ρ : Go.Shelf.Ren} (L : Go.Proofs.Lays2.n20 P ρ) (zs : List Int) (hl : zs.length <= 16777216) :
  Ctr P (ρ.f 20) [.one (.own 0)] [.vec 1 true (zs.map intRow)] (.one (.own 1)) [.dead, .vec 1 true ((Lib.compact zs).map intRow)] where
 clean := trivial
 sep := by simp [AObj.Sep]
 len := by simp
 comp := fun o ho => by
  have : o = 0 := by simpa using ho
  subst this
  trivial
 calls := fun w β φ vs hor ha => by
  obtain ⟨hs, ha⟩ := ha
  obtain ⟨v, hv, _, hp⟩ := ha 0 _ rfl
  have hvs : vs = #[v] := by
   have hs : vs.size = 1 := hs
   apply Array.ext_getElem?
   intro k
   cases k with
   | zero => rw [hv]; rfl
   | succ k => rw [Array.getElem?_eq_none (by omega), Array.getElem?_eq_none (by simp)]
  subst hvs
  have hp : v = .slice (β 0).base (zs.map intRow).length (β 0).cap := hp
  rw [List.length_map] at hp
  obtain ⟨hcap, hcs⟩ := ints_cells (hor.objs 0) (zs := zs) rfl
  have hcap : zs.length <= (β 0).cap := hcap
  have hdead : ∀ o, o ≠ 0 -> φ o = [] := fun o ho => by
   have := hor.objs o
   unfold ObjRel at this
   rw [show (lctx w β φ [.vec 1 true (zs.map intRow)]).ob o = AObj.dead by
    show List.getD _ o AObj.dead = _
    cases o with
    | zero => exact absurd rfl ho
    | succ o => rfl] at this
   exact this
  let φ' : Nat -> List Nat := fun o => if o = 1 then φ 0 else []
  have hφ0 : φ' 0 = [] := rfl
  have hφ1 : φ' 1 = φ 0 := rfl
  have hφn : ∀ o, o ≠ 1 -> φ' o = [] := fun o ho => if_neg ho
  have hnd : ∀ o, (φ' o).Nodup := fun o => by
   by_cases h : o = 1
   ·rw [h, hφ1]; exact hor.nodup 0
   ·rw [hφn o h]; exact List.nodup_nil
  have hdj : ∀ o o', o ≠ o' -> ∀ b ∈ φ' o, b ∉ φ' o' := fun o o' hne b hb hb' => by
   by_cases h : o = 1
   ·by_cases h' : o' = 1
    ·exact hne (h.trans h'.symm)
    ·rw [hφn o' h'] at hb'; cases hb'
   ·rw [hφn o h] at hb; cases hb
  have hin : ∀ o, ∀ b ∈ φ' o, b ∈ φ 0 := fun o b hb => by
   by_cases h : o = 1
   ·rw [h, hφ1] at hb; exact hb
   ·rw [hφn o h] at hb; cases hb
  have hob : ∀ (w' : World) (rows : List (List D)) (o : Nat), o ≠ 1 -> (lctx w' (fun _ => β 0) φ' [.dead, .vec 1 true rows]).ob o = .dead := fun w' rows o ho => by
   show List.getD _ o AObj.dead = _
   match o with
   | 0 => rfl
   | 1 => exact absurd rfl ho
   | o + 2 => rfl
  have hβ : ∀ o, o < 1 -> (fun _ => β 0 : Nat -> Info) o = β o := fun o ho => by
   have : o = 0 := by omega
   subst this; rfl
  by_cases h0 : zs = []
  ·subst h0
   rw [hp]
   refine (Go.Proofs.Any.slices_Compact_int_empty L _ _ _).mono ?_
   rintro e w' ⟨rfl, rfl⟩
   refine ⟨_, fun _ => β 0, φ', rfl, ⟨fun o => ?_, hnd, hdj, fun o x hx => hor.fp 0 x (hin o x hx)⟩, hβ, fun o b hb => .inr ⟨0, hin o b hb⟩, ⟨by show 1 < 2; omega, rfl⟩, Frm.refl _ _⟩
   by_cases ho : o = 1
   ·subst ho
    have := hor.objs 0
    unfold ObjRel at this ⊢
    exact this
   ·unfold ObjRel
    rw [hob _ _ o ho]
    exact hφn o ho
  ·rcases hcs with ⟨_, h, _⟩ | ⟨b, T, E, cs, hb, hh, hsz, ht, ⟨ds, hds⟩, hφ⟩
   ·exact absurd h h0
   have hb : (β 0).base = some ⟨b, 0, none⟩ := hb
   have hh : w.heap[b]? = some (.cells cs T (0, 0)) := hh
   have hsz : cs.size = (β 0).cap := hsz
   rw [hp, hb]
   refine (Go.Proofs.Any.slices_Compact_int L b 0 (β 0).cap zs w (ints_holds hh ht) (by omega) hcap).mono ?_
   rintro e w' ⟨rfl, n, rfl⟩
   generalize hys : Lib.compact zs = ys
   have hyl : ys.length <= zs.length := by rw [<- hys]; exact Lib.compact_length_le zs
   generalize hxs : ys ++ List.replicate (zs.length - ys.length) 0 = xs
   have hxl : xs.length = zs.length := by rw [<- hxs]; simp; omega
   obtain ⟨p1, p2⟩ := put_heap (n := n) hh xs.toArray
   have hbl : b < w.heap.size := lt_of_heap hh
   have hsize : w.heap.size <= (Go.Sort.putRow (Value.int .i64) (Go.Sort.ahead w n) b 0 xs.toArray).heap.size := by simp
   have hpl := putCells_list #[] cs (Value.int .i64) xs (by omega)
   have hsplit : xs.map (Value.int .i64) ++ cs.toList.drop xs.length = ys.map (Value.int .i64) ++ ((List.replicate (zs.length - ys.length) 0).map (Value.int .i64) ++ cs.toList.drop zs.length) := by
    rw [hxl, <- hxs, List.map_append, List.append_assoc]
   rw [hsplit] at hpl
   refine ⟨_, fun _ => β 0, φ', rfl, ⟨fun o => ?_, hnd, hdj, fun o x hx => Nat.lt_of_lt_of_le (hor.fp 0 x (hin o x hx)) hsize⟩, hβ, fun o b hb => .inr ⟨0, hin o b hb⟩, ⟨by show 1 < 2; omega, ?_⟩, ⟨rfl, rfl, rfl, hsize, fun k hk hx => ?_⟩⟩
   ·by_cases ho : o = 1
    ·subst ho
     unfold ObjRel
     show _ /\ _ /\ _
     refine ⟨by simp [intRow], by rw [List.length_map]; exact Nat.le_trans hyl hcap, .inr ⟨b, T, [], E, _, hb, p1, ⟨?_, (List.replicate (zs.length - ys.length) 0).map (D.int .i64) ++ ds, ?_⟩, ?_, hφ, by simp, by simp, ?_⟩⟩
     ·rw [Nat.mul_one]
      show (Go.Sort.putCells _ _ _ _).size = (β 0).cap
      rw [<- hsz]; simp [Go.Sort.putCells]
     ·rw [List.length_map, Nat.mul_one, hpl, List.drop_append_of_le_length (by simp), List.drop_of_length_le (by simp), List.nil_append]
      have := (ints_repL' (Go.Sort.putRow (Value.int .i64) (Go.Sort.ahead w n) b 0 xs.toArray) (List.replicate (zs.length - ys.length) 0)).append (hds.frm0 hsize)
      exact this
     ·rw [List.length_map, Nat.mul_one, hpl, List.take_append_of_le_length (by simp), show ys.length = (ys.map (Value.int .i64)).length by simp, List.take_length]
      exact ints_repL _ ys
     ·rw [List.length_map, Nat.mul_one, hpl, List.take_append_of_le_length (by simp), show ys.length = (ys.map (Value.int .i64)).length by simp, List.take_length]
      exact OwnL.of_nil (ints_repL _ ys)
    ·unfold ObjRel
     rw [hob _ _ o ho]
     exact hφn o ho
   ·show Value.slice _ _ _ = Value.slice (β 0).base (ys.map intRow).length (β 0).cap
    rw [hb, List.length_map]
   ·rw [p2 k (fun e => hx ⟨0, by rw [hφ, e]; simp⟩)]

end Go.Abs
