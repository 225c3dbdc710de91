import Derived.Test.YtkmmgklnoagedaaGreatChecked
import Derived.Test.YtkmmgklnoagedaaGreatQAbsRange
import Derived.RangeFuncNested
import Derived.RangeFuncBound
import Derived.RangeFuncLeaves
import Derived.Shelf.Abstract
import Derived.WalkKit
import Derived.OwnWalkIn
import Derived.TacticsInMore
import Derived.LoopNIn
import Derived.LoopIn
/- slices.Backward's closure over numbers, as a contract. -/
namespace Go.Abs
set_option linter.unusedVariables false
set_option linter.unusedSimpArgs false
/-- A function that boxes its slice and hands back a closure over the box. -/
theorem CtrW.boxFn {P : Program} {f gf : FuncId} {T : TypeId} (hf : ∀ (a : Option Addr) (n cap : Nat) (w : World), Calls P f #[.slice a n cap] w fun e w' => e = .returned (.func (.func gf) #[] #[.pointer (some ⟨w.heap.size, 0, none⟩)]) ∧ w' = w.alloc (.cells #[.slice a n cap] T))
    (objs : List AObj) (sz : Nat) (rows : List (List D)) : CtrW P f [.one (.dat (.sl sz rows))] objs (fun r objs' => r = .one (.fn gf [.own objs.length 0 0]) ∧ objs' = objs ++ [.box [.dat (.sl sz rows)]]) := by
  refine ⟨fun w β φ vs hOR hargs => ?_⟩
  obtain ⟨h1, h2⟩ := hargs
  obtain ⟨v, hv, S, hS, hM⟩ := h2 0 _ rfl
  have hvs : vs = #[v] := by
    apply Array.ext'
    have hl : vs.toList.length = 1 := by simpa using h1
    rw [← Array.getElem?_toList] at hv
    match hvl : vs.toList, hl, hv with
    | [y], _, e => cases e; rfl
  subst hvs
  have hsl : ∃ a n cap, v = .slice a n cap := by
    generalize hd : D.sl sz rows = d at hS
    cases hS <;> first | exact ⟨_, _, _, rfl⟩ | cases hd
  obtain ⟨a, n, cap, rfl⟩ := hsl
  refine (hf a n cap w).mono ?_
  rintro e w' ⟨rfl, rfl⟩
  have hctx : ∀ (w : World) (β : Nat → Info) (φ : Nat → List Nat), (mkSt [] objs).ctx w β φ = lctx w β φ objs := fun w β φ => by
    show Ctx.mk w β (mkSt [] objs).obj _ _ = _
    rw [show (mkSt [] objs).obj = Objs objs from funext fun k => mkSt_obj [] objs k]
    rfl
  let B : Base := ⟨w, fun b => ∃ o, b ∈ φ o, objs.length, β⟩
  let ac : Act := { tmps := #[], defers := [] }
  have sr : SR B 0 (mkSt [] objs) β φ ac w := by
    refine ⟨rfl, Marks.nil, fun t v hv => (by cases hv), fun o ho => ?_, fun o => by rw [hctx]; exact hOR.objs o, hOR.nodup, hOR.disj, fun o b hb => ⟨hOR.fp o b hb, .inl ⟨o, hb⟩⟩, Frm.refl _ _, ⟨Nat.le_refl _, fun _ _ => rfl⟩⟩
    rw [mkSt_obj]
    have ho : objs.length ≤ o := ho
    rw [List.getD_eq_getElem?_getD, List.getElem?_eq_none ho]; rfl
  obtain ⟨β', φ', le, sr', hp⟩ := sr.newBox (ls := [.dat (.sl sz rows)]) (vs := #[.slice a n cap]) (T := T) ⟨rfl, fun j l hl => by
    cases j with
    | zero => cases hl; exact ⟨_, rfl, S, hS, hM⟩
    | succ j => simp at hl⟩
  have hob : ((mkSt [] objs).addObj (.box [.dat (.sl sz rows)])).obj = Objs (objs ++ [.box [.dat (.sl sz rows)]]) := by
    funext k
    by_cases hk : k = objs.length
    · subst hk
      have : Objs (objs ++ [.box [.dat (.sl sz rows)]]) objs.length = .box [.dat (.sl sz rows)] := by
        unfold Objs; rw [List.getD_eq_getElem?_getD, List.getElem?_append_right (Nat.le_refl _)]; simp
      rw [this]
      exact St.obj_addObj_same _ _
    · rw [St.obj_addObj_ne _ _ (show k ≠ (mkSt [] objs).next from hk), mkSt_obj]
      unfold Objs
      rw [List.getD_eq_getElem?_getD, List.getD_eq_getElem?_getD]
      rcases Nat.lt_or_ge k objs.length with h | h
      · rw [List.getElem?_append_left h]
      · rw [List.getElem?_eq_none h, List.getElem?_eq_none (by rw [List.length_append, List.length_cons, List.length_nil]; omega)]
  have hctx' : ∀ (w : World) (β : Nat → Info) (φ : Nat → List Nat), ((mkSt [] objs).addObj (.box [.dat (.sl sz rows)])).ctx w β φ = lctx w β φ (objs ++ [.box [.dat (.sl sz rows)]]) := fun w β φ => by
    show Ctx.mk w β ((mkSt [] objs).addObj (.box [.dat (.sl sz rows)])).obj _ _ = _
    rw [hob]
    show Ctx.mk w β _ _ (objs.length + 1) = Ctx.mk w β _ _ (objs ++ [AObj.box [.dat (.sl sz rows)]]).length
    rw [List.length_append]; rfl
  rw [hctx'] at hp
  refine ⟨_, _, ⟨rfl, rfl⟩, by rw [List.length_append]; omega, fun o ho => ?_, _, β', φ', rfl, ⟨fun o => by rw [← hctx']; exact sr'.objs o, sr'.nodup, sr'.disj, fun o b hb => (sr'.fp o b hb).1⟩, fun o ho => sr'.init.2 o ho, fun o b hb => (sr'.fp o b hb).2.symm, ?_, sr'.frame⟩
  · unfold Objs
    rw [List.getD_eq_getElem?_getD, List.getD_eq_getElem?_getD, List.getElem?_append_left ho]
    exact .refl _
  · exact ⟨#[.pointer (some ⟨w.heap.size, 0, none⟩)], rfl, rfl, fun k c hk => by
      cases k with
      | zero => cases hk; exact ⟨_, rfl, hp⟩
      | succ k => simp at hk⟩
end Go.Abs
namespace Go.Proofs.YtkmmgklnoagedaaGreat.Mod
open Go.Proofs Go.Proofs.Tryz Go.Abs Go.RowKit Go.Shelf
set_option linter.unusedVariables false
set_option linter.unusedSimpArgs false
theorem g8 {w : World} : ∀ {zs : List Int} {vs : List Value} {S : List Nat}, RepL w (zs.map encZ).flatten vs S → ∀ (j : Nat), vs[j]? = zs[j]?.map (Value.int .i64)
  | [], vs, S, h, j => by cases h; rfl
  | z :: zs, vs, S, h, j => by
    have h : RepL w (.int .i64 z :: (zs.map encZ).flatten) vs S := h
    cases h with
    | cons h1 h2 =>
      cases h1
      cases j with
      | zero => rfl
      | succ j => simpa using g8 h2 j
theorem fc {bs : Nat} {zs : List Int} {W : World} (h : Reads bs zs W) : ∃ a cap, W.cell? ⟨bs, 0, none⟩ = some (.slice a zs.length cap) ∧
    ∀ (j : Nat) (z : Int), zs[j]? = some z → ∃ b off, a = some ⟨b, off, none⟩ ∧ W.cell? ⟨b, off + j, none⟩ = some (.int .i64 z) := by
  obtain ⟨T, sv, S, h1, h2⟩ := h
  have hc : W.cell? ⟨bs, 0, none⟩ = some sv := by rw [aB h1]; rfl
  generalize hd : D.sl 1 (zs.map encZ) = d at h2
  cases h2 with
  | nil sz a cap =>
    cases hd' : zs with
    | nil => exact ⟨a, cap, hc, fun j z hj => by simp at hj⟩
    | cons z zs => rw [hd'] at hd; cases hd
  | sl sz rows b off cap vs S hb hsz hl hcs hcap =>
    cases hd
    refine ⟨_, cap, by rw [hc, List.length_map], fun j z hj => ⟨b, off, rfl, hcs j _ ?_⟩⟩
    rw [g8 hl j, hj]; rfl
  | _ => cases hd
set_option maxRecDepth 100000 in
set_option maxHeartbeats 2000000 in
theorem ma (a : Option Addr) (n cap : Nat) (w : World) : Calls prog 69 #[.slice a n cap] w fun e w' => e = .returned (.func (.func 159) #[] #[.pointer (some ⟨w.heap.size, 0, none⟩)]) ∧ w' = w.alloc (.cells #[.slice a n cap] 24) := by
  refine (callsIn_wide (n := 3)).1 (callsIn_of_wp func69 rfl trivial ?_ rfl)
  simp only [ntmps69, List.size_toArray, List.length_cons, List.length_nil, Nat.reduceAdd, Nat.reduceSub, Array.replicate_succ, Array.replicate_zero, List.push_toArray, List.append_toArray, List.nil_append, List.cons_append]
  gi_wp2
  go_ret
  exact ⟨rfl, rfl⟩
theorem m5 (objs : List AObj) (rows : List (List D)) : CtrW prog 69 [.one (.dat (.sl 1 rows))] objs (fun r objs' => r = .one (.fn 159 [.own objs.length 0 0]) ∧ objs' = objs ++ [.box [.dat (.sl 1 rows)]]) :=
  CtrW.boxFn ma objs 1 rows
set_option maxRecDepth 100000 in
set_option maxHeartbeats 2000000 in
theorem mb : BackC prog 159 := by
  refine ⟨enters_of func159 (by kernel_rfl) rfl, fun n bs zs w hn hlen hrd => fun l J Jx W hW _ _ hY h0 => ?_⟩
  have hR0 := hrd.below hW
  obtain ⟨a0, cap0, hBs, _⟩ := fc hR0
  show CallsIn Fence.wide n prog 159 #[.func (.yield l) #[] #[], .pointer (some ⟨bs, 0, none⟩)] W _
  refine callsIn_of_wp func159 rfl trivial ?_ rfl
  simp only [ntmps159, List.size_toArray, List.length_cons, List.length_nil, Nat.reduceAdd, Nat.reduceSub, Array.replicate_succ, Array.replicate_zero, List.push_toArray, List.append_toArray, List.nil_append, List.cons_append]
  gi_wp2
  gi_loopw [3] (fun i wr => ∃ (m : Nat) (pre : List (Handed zs)), m + pre.length = zs.length ∧ i = .int .i64 ((m : Int) - 1) ∧ came pre = zs.reverse.take pre.length ∧ J pre wr ∧ Reads bs zs wr)
    (fun i _ => (intOf i + 1).toNat)
  case atStart =>
    exact ⟨zs.length, [], rfl, rfl, rfl, h0, hR0⟩
  case round =>
    obtain ⟨m, pre, hm, rfl, hcm, hJ, hR⟩ := hrel
    cases m with
    | zero =>
      rw [show ((0 : Nat) : Int) - 1 = -1 from rfl]
      gi_wp2
      go_end0
      refine ⟨⟨_, rfl⟩, .inl ⟨pre, ?_, hJ⟩⟩
      rw [hcm, show pre.length = zs.reverse.length by rw [List.length_reverse]; omega, List.take_length]
    | succ m =>
      rw [show ((m + 1 : Nat) : Int) - 1 = (m : Int) by omega]
      have hml : m < zs.length := by omega
      obtain ⟨a1, cap1, hB1, hc1⟩ := fc hR
      obtain ⟨b, off, rfl, hcx⟩ := hc1 m zs[m] (List.getElem?_eq_getElem hml)
      obtain ⟨fn, tmps, assign, body, hy, hRd⟩ := hY pre ((m : Int), ⟨zs[m], List.getElem_mem hml⟩) wr hJ (by omega)
      unfold handed at hy
      dsimp only at hy
      have hcm' : came (pre ++ [((m : Int), ⟨zs[m], List.getElem_mem hml⟩)]) = zs.reverse.take (pre.length + 1) := by
        have hlt : pre.length < zs.reverse.length := by rw [List.length_reverse]; omega
        rw [List.take_succ_eq_append_getElem hlt, ← hcm]
        simp only [came, List.map_append, List.map_cons, List.map_nil, List.getElem_reverse]
        congr 2
        congr 1
        omega
      gi_wp2
      refine hRd.mono ?_
      rintro e W3 (⟨rfl, hJ3, hk3⟩ | ⟨rfl, hJx3⟩)
      · gi_wp2
        go_roundw
        case rel => exact ⟨m, _, by rw [List.length_append, List.length_cons, List.length_nil]; omega, rfl, by rw [hcm', List.length_append]; rfl, hJ3, hk3 hR⟩
        case measure => simp [intOf]
      · gi_wp2
        refine bodyPost_ret (results_none rfl _ _ _) rfl ?_
        exact ⟨⟨_, rfl⟩, .inr ⟨_, trivial, hJx3⟩⟩
end Go.Proofs.YtkmmgklnoagedaaGreat.Mod
