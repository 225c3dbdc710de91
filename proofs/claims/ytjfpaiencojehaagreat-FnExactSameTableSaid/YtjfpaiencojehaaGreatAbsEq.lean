/- Two structures of flat parts, compared. Own work; generic over the program. -/
import Derived.Test.YtjfpaiencojehaaGreatAbsMem
import Derived.Laws.StructEq
namespace Go.Abs
def kindNo (P : Program) (t : TypeId) : Option Nat := match P.underlying t with
  | some (.int _) => some 0
  | some .bool => some 1
  | some .string => some 2
  | _ => none
def flatEq (P : Program) : List Field → Nat → Option (List Nat)
  | [], _ => some []
  | f :: fs, o => match kindNo P f.type, flatEq P fs (o + 1) with
    | some k, some ks => if f.offset = o ∧ f.name ≠ "_" then some (k :: ks) else none
    | _, _ => none
/-- a structure whose parts are numbers, truths and texts: their kinds -/
def teq (P : Program) (t : TypeId) : Option (List Nat) := match P.underlying t with
  | some (.struct fs) => if P.stoodInHeld t = false ∧ P.eqGuardType P.depth t = false then flatEq P fs.toList 0 else none
  | _ => none
def eqLeaves : List Nat → List Leaf → List Leaf → Option (Prop × Bool)
  | [], [], [] => some (True, true)
  | 0 :: ks, .dat (.int k a) :: ls, .dat (.int k' b) :: ms => (eqLeaves ks ls ms).map fun x => (k = k' ∧ x.1, (a == b) && x.2)
  | 1 :: ks, .dat (.bool a) :: ls, .dat (.bool b) :: ms => (eqLeaves ks ls ms).map fun x => (x.1, (a == b) && x.2)
  | 2 :: ks, .dat (.str a) :: ls, .dat (.str b) :: ms => (eqLeaves ks ls ms).map fun x => (x.1, (a.toList == b.toList) && x.2)
  | _, _, _ => none

theorem run_part {P : Program} {w : World} {t : TypeId} {k : Nat} (hk : kindNo P t = some k) {cs : Array Value} {o : Nat} {v : Value} (hv : cs[o]? = some v) : (part t cs o).run P w = .ok v w := by
  unfold kindNo at hk
  have : (isAgg t).run P w = .ok false w := by
    split at hk
    · rename_i h; simp [isAgg, run_underlying h]
    · rename_i h; simp [isAgg, run_underlying h]
    · rename_i h; simp [isAgg, run_underlying h]
    · cases hk
  simp only [part, Sem.run_bind, this, Result.andThen_ok, Bool.false_eq_true, if_false, hv, Sem.run_pure]

theorem eqFields_step {P : Program} {w : World} {d : Nat} {f : Field} {fs : List Field} {xs ys : Array Value} {k o : Nat} {u v : Value} {c b : Bool} (hk : kindNo P f.type = some k) (ho : f.offset = o) (hn : f.name ≠ "_")
    (hu : xs[o]? = some u) (hv : ys[o]? = some v) (hc : (Op.equalIn (d + 1) f.type u v).run P w = .ok c w) (hb : (Op.eqFields (d + 1) xs ys fs).run P w = .ok b w) : (Op.eqFields (d + 1) xs ys (f :: fs)).run P w = .ok (c && b) w := by
  subst ho
  simp only [Op.eqFields, if_pos hn, Sem.run_bind, run_part hk hu, run_part hk hv, hc, Result.andThen_ok]
  cases c
  · simp
  · simpa using hb

theorem eqFields_run {P : Program} {C : Ctx} (d : Nat) {xs ys : Array Value} : ∀ {fs : List Field} {o : Nat} {ks : List Nat} {ls ms : List Leaf} {q : Prop} {b : Bool}, flatEq P fs o = some ks → eqLeaves ks ls ms = some (q, b) → q →
    Leaves C ls (xs.toList.drop o) → Leaves C ms (ys.toList.drop o) → (Op.eqFields (d + 1) xs ys fs).run P C.w = .ok b C.w
  | [], o, ks, ls, ms, q, b, h1, h2, hq, _, _ => by
    simp only [flatEq, Option.some.injEq] at h1
    subst h1
    cases ls <;> cases ms <;> simp only [eqLeaves, Option.some.injEq, Prod.mk.injEq, reduceCtorEq] at h2
    obtain ⟨_, rfl⟩ := h2
    simp [Op.eqFields]
  | f :: fs, o, ks, ls, ms, q, b, h1, h2, hq, hl, hm => by
    simp only [flatEq] at h1
    split at h1
    · rename_i k ks' e1 e2
      split at h1
      · rename_i e3
        simp only [Option.some.injEq] at h1
        subst h1
        have key : ∀ {l m : Leaf} {ls' ms' : List Leaf}, ls = l :: ls' → ms = m :: ms' → ∃ u v, xs[o]? = some u ∧ ys[o]? = some v ∧ LeafRel C l u ∧ LeafRel C m v ∧ Leaves C ls' (xs.toList.drop (o + 1)) ∧ Leaves C ms' (ys.toList.drop (o + 1)) := by
          rintro l m ls' ms' rfl rfl
          obtain ⟨u, hu, ru⟩ := hl.2 0 l rfl
          obtain ⟨v, hv, rv⟩ := hm.2 0 m rfl
          refine ⟨u, v, by simpa using hu, by simpa using hv, ru, rv, ⟨by have := hl.1; simp at this ⊢; omega, fun j x hj => ?_⟩, ⟨by have := hm.1; simp at this ⊢; omega, fun j x hj => ?_⟩⟩
          · have := hl.2 (j + 1) x (by simpa using hj)
            simpa [Nat.add_assoc, Nat.add_comm 1] using this
          · have := hm.2 (j + 1) x (by simpa using hj)
            simpa [Nat.add_assoc, Nat.add_comm 1] using this
        unfold eqLeaves at h2
        split at h2
        all_goals first | (cases h2; done) | skip
        · rename_i hks; cases hks
        · rename_i ks2 kk a ls' kk' a' ms' hks
          simp only [List.cons.injEq] at hks
          obtain ⟨rfl, rfl⟩ := hks
          obtain ⟨u, v, hu, hv, ⟨S, ru, _⟩, ⟨S', rv, _⟩, hl', hm'⟩ := key rfl rfl
          cases ru; cases rv
          obtain ⟨⟨q', b'⟩, e5, e6⟩ := Option.map_eq_some_iff.1 h2
          simp only [Prod.mk.injEq] at e6
          obtain ⟨rfl, rfl⟩ := e6
          obtain ⟨rfl, hq'⟩ := hq
          obtain ⟨k0, hk0⟩ : ∃ k0, P.underlying f.type = some (.int k0) := by
            unfold kindNo at e1; split at e1 <;> first | exact ⟨_, by assumption⟩ | (simp at e1)
          exact eqFields_step e1 e3.1 e3.2 hu hv (run_equalIn_int _ d f.type _ k0 _ _ hk0) (eqFields_run d e2 e5 hq' hl' hm')
        · rename_i ks2 a ls' a' ms' hks
          simp only [List.cons.injEq] at hks
          obtain ⟨rfl, rfl⟩ := hks
          obtain ⟨u, v, hu, hv, ⟨S, ru, _⟩, ⟨S', rv, _⟩, hl', hm'⟩ := key rfl rfl
          cases ru; cases rv
          obtain ⟨⟨q', b'⟩, e5, e6⟩ := Option.map_eq_some_iff.1 h2
          simp only [Prod.mk.injEq] at e6
          obtain ⟨rfl, rfl⟩ := e6
          have hk0 : P.underlying f.type = some .bool := by
            unfold kindNo at e1; split at e1 <;> first | assumption | (simp at e1)
          exact eqFields_step e1 e3.1 e3.2 hu hv (run_equalIn_bool' _ d f.type _ _ hk0) (eqFields_run d e2 e5 hq hl' hm')
        · rename_i ks2 a ls' a' ms' hks
          simp only [List.cons.injEq] at hks
          obtain ⟨rfl, rfl⟩ := hks
          obtain ⟨u, v, hu, hv, ⟨S, ru, _⟩, ⟨S', rv, _⟩, hl', hm'⟩ := key rfl rfl
          cases ru; cases rv
          obtain ⟨⟨q', b'⟩, e5, e6⟩ := Option.map_eq_some_iff.1 h2
          simp only [Prod.mk.injEq] at e6
          obtain ⟨rfl, rfl⟩ := e6
          have hk0 : P.underlying f.type = some .string := by
            unfold kindNo at e1; split at e1 <;> first | assumption | (simp at e1)
          exact eqFields_step e1 e3.1 e3.2 hu hv (run_equalIn_string _ d f.type _ _ hk0) (eqFields_run d e2 e5 hq hl' hm')
      · cases h1
    · cases h1

theorem eqAgg_run {P : Program} {C : Ctx} {t : TypeId} {ks : List Nat} (ht : teq P t = some ks) {x y : Operand} {xs ys : Array Value} {ls ms : List Leaf} {q : Prop} {b : Bool} (he : eqLeaves ks ls ms = some (q, b)) (hq : q)
    (hl : Leaves C ls xs.toList) (hm : Leaves C ms ys.toList) :
    (do eqGuard .eql t x y (.agg xs) (.agg ys); binOp .eql t (.agg xs) (.agg ys) : Sem Value).run P C.w = .ok (.bool b) C.w ∧
    (do eqGuard .neq t x y (.agg xs) (.agg ys); binOp .neq t (.agg xs) (.agg ys) : Sem Value).run P C.w = .ok (.bool (!b)) C.w := by
  unfold teq at ht
  split at ht
  · rename_i fs hu
    split at ht
    · rename_i h2
      have hf : P.fieldsOf t = fs := by unfold Program.fieldsOf; rw [hu]
      have := eqFields_run 9998 ht he hq (by simpa using hl) (by simpa using hm)
      have h3 := run_equalIn_struct (P := P) C.w 9999 t xs ys (by rw [hf]; exact hu) h2.1
      rw [hf, this] at h3
      constructor
      · rw [Sem.run_bind, run_eqGuard_agg C.w .eql t x y xs ys h2.2, Result.andThen_ok, run_eql_struct, h3]; rfl
      · rw [Sem.run_bind, run_eqGuard_agg C.w .neq t x y xs ys h2.2, Result.andThen_ok, run_neq_struct, h3]; rfl
    · cases ht
  · cases ht
end Go.Abs
