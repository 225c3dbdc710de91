/- A region whose order is open, with calls that bring new objects. -/
import Derived.Test.YtkfpkemibnmkoaaAbsAny
namespace Go.Abs
set_option linter.unusedVariables false
set_option linter.unusedSimpArgs false

section
variable {P : Program} {B : Base} {N : Nat} {st st' : St} {β : Nat → Info} {φ : Nat → List Nat} {a : Act} {w w' : World}

theorem preE_env : ∀ (l : List Oper) (vs : List AV) (xs : List (List AObj)) (j : Nat) (s1 s2 : St), vs.length = l.length → xs.length = l.length → s1.env = s2.env → (preE l vs xs j s1).env = (pre l vs j s2).env
  | [], vs, xs, j, s1, s2, _, _, h => by cases vs <;> exact h
  | o :: l, [], xs, j, s1, s2, h, _, _ => by simp at h
  | o :: l, v :: vs, [], j, s1, s2, _, h, _ => by simp at h
  | o :: l, v :: vs, x :: xs, 0, s1, s2, _, _, h => h
  | o :: l, v :: vs, x :: xs, j + 1, s1, s2, h1, h2, h => by
    refine preE_env l vs xs j _ _ (by simpa using h1) (by simpa using h2) ?_
    unfold St.putO
    cases o.dst with
    | none => exact h
    | some d => show (d, v) :: s1.env = (d, v) :: s2.env; rw [h]

/-- The objects behind the first calls. -/
def grow : List (List AObj) → Nat → St → St
  | x :: xs, j + 1, st => grow xs j (st.after [] x)
  | _, _, st => st

theorem grow_env : ∀ (xs : List (List AObj)) (j : Nat) (env : List (Nat × AV)) (st : St), grow xs j { st with env := env } = { grow xs j st with env := env }
  | [], j, env, st => rfl
  | x :: xs, 0, env, st => rfl
  | x :: xs, j + 1, env, st => grow_env xs j env (st.after [] x)

theorem preE_grow : ∀ (l : List Oper) (vs : List AV) (xs : List (List AObj)) (j : Nat) (st : St), vs.length = l.length → xs.length = l.length → ∃ env, preE l vs xs j st = { grow xs j st with env := env }
  | [], vs, xs, j, st, h1, h2 => by
    have : xs = [] := List.eq_nil_of_length_eq_zero (by simpa using h2)
    subst this
    exact ⟨st.env, by cases vs <;> rfl⟩
  | o :: l, [], xs, j, st, h, _ => by simp at h
  | o :: l, v :: vs, [], j, st, _, h => by simp at h
  | o :: l, v :: vs, x :: xs, 0, st, _, _ => ⟨st.env, rfl⟩
  | o :: l, v :: vs, x :: xs, j + 1, st, h1, h2 => by
    obtain ⟨env, h⟩ := preE_grow l vs xs j ((st.after [] x).putO o.dst (some v)) (by simpa using h1) (by simpa using h2)
    refine ⟨env, ?_⟩
    show preE l vs xs j _ = _
    rw [h]
    have : ∃ e, (st.after [] x).putO o.dst (some v) = { st.after [] x with env := e } := by
      unfold St.putO
      cases o.dst with
      | none => exact ⟨_, rfl⟩
      | some d => exact ⟨_, rfl⟩
    obtain ⟨e, he⟩ := this
    rw [he, grow_env]
    rfl

theorem grow_succ : ∀ (xs : List (List AObj)) (i : Nat) (st : St) (x : List AObj), xs[i]? = some x → grow xs (i + 1) st = (grow xs i st).after [] x
  | [], i, st, x, h => by simp at h
  | y :: xs, 0, st, x, h => by
    simp at h
    subst h
    show grow xs 0 _ = _
    cases xs <;> rfl
  | y :: xs, i + 1, st, x, h => grow_succ xs i (st.after [] y) x (by simpa using h)

theorem grow_same (xs : List (List AObj)) (st : St) {b i : Nat} (hbi : b ≤ i) (hi : i ≤ xs.length) (h : ∀ k x, b ≤ k → k < i → xs[k]? = some x → x = []) : grow xs i st = grow xs b st := by
  induction i with
  | zero => have : b = 0 := by omega
            subst this; rfl
  | succ i ih =>
    by_cases e : b = i + 1
    · subst e; rfl
    · have hx : xs[i]? = some xs[i] := List.getElem?_eq_getElem (by omega)
      rw [grow_succ xs i st _ hx, h i _ (by omega) (by omega) hx, after_nil]
      exact ih (by omega) (by omega) fun k x h1 h2 => h k x h1 (by omega)

theorem after_obj (st : St) (x : List AObj) {k : Nat} (hk : k < st.next) : (st.after [] x).obj k = st.obj k := by
  show (find ((idsOf [] st.next x.length).zip x ++ st.objs) k).getD .dead = (find st.objs k).getD .dead
  rw [find_zip_out]
  intro hm
  have := (fresh_mem _ _ _).1 (by simpa [idsOf] using hm)
  omega

theorem after_dead {st : St} (h : ∀ k, st.next ≤ k → st.obj k = .dead) (x : List AObj) : ∀ k, (st.after [] x).next ≤ k → (st.after [] x).obj k = .dead := fun k hk => by
  have hk' : st.next + (x.length - 0) ≤ k := hk
  show (find ((idsOf [] st.next x.length).zip x ++ st.objs) k).getD .dead = .dead
  rw [find_zip_out]
  · exact h k (by omega)
  · intro hm
    have := (fresh_mem _ _ _).1 (by simpa [idsOf] using hm)
    omega

theorem grow_mono (xs : List (List AObj)) (st : St) {b i : Nat} (hbi : b ≤ i) (hi : i ≤ xs.length) : (grow xs b st).next ≤ (grow xs i st).next ∧ ∀ k, k < (grow xs b st).next → (grow xs i st).obj k = (grow xs b st).obj k := by
  induction i with
  | zero => have : b = 0 := by omega
            subst this; exact ⟨Nat.le_refl _, fun _ _ => rfl⟩
  | succ i ih =>
    by_cases e : b = i + 1
    · subst e; exact ⟨Nat.le_refl _, fun _ _ => rfl⟩
    · have hx : xs[i]? = some xs[i] := List.getElem?_eq_getElem (by omega)
      obtain ⟨h1, h2⟩ := ih (by omega) (by omega)
      rw [grow_succ xs i st _ hx]
      refine ⟨Nat.le_trans h1 (by show _ ≤ (grow xs i st).next + _; omega), fun k hk => ?_⟩
      rw [after_obj _ _ (by omega)]
      exact h2 k hk

theorem grow_dead (xs : List (List AObj)) : ∀ (i : Nat) (st : St), (∀ k, st.next ≤ k → st.obj k = .dead) → ∀ k, (grow xs i st).next ≤ k → (grow xs i st).obj k = .dead := by
  induction xs with
  | nil => intro i st h; exact h
  | cons x xs ih =>
    intro i st h
    cases i with
    | zero => exact h
    | succ i => exact ih i (st.after [] x) (after_dead h x)

theorem effOk_spec {ops : Array Oper} (h : effOk ops = true) {i j : Nat} {p o : Oper} (hp : ops[i]? = some p) (ho : ops[j]? = some o) (hij : i < j) (hcp : callV p.op = true) (hco : callV o.op = true) : ∃ e ∈ o.after, Region.binds .any e = true ∧ e.on = i := by
  unfold effOk at h
  have mem : ∀ (j : Nat) (o : Oper), ops[j]? = some o → (o, j) ∈ ops.toList.zipIdx := fun j o hj => by
    rw [List.mem_zipIdx_iff_getElem?]
    simpa using hj
  have h1 := List.all_eq_true.1 h _ (mem j o ho)
  simp only [hco, Bool.not_true, Bool.false_or] at h1
  have h2 := List.all_eq_true.1 h1 _ (mem i p hp)
  simp only [hcp, hij, decide_true, Bool.and_self, Bool.not_true, Bool.false_or] at h2
  obtain ⟨m, hm, h4⟩ := Array.any_eq_true.1 h2
  simp only [Bool.and_eq_true] at h4
  exact ⟨o.after[m], Array.getElem_mem hm, h4.1, by simpa using h4.2⟩

/-- An operation that leaves memory alone has the same value where other objects have come. -/
theorem opS_agree {sA sE : St} (hob : ∀ k, sA.obj k = sE.obj k ∨ sE.obj k = .dead ∨ sA.next ≤ k) {o : Oper} (hp : pureOp o.op = true) (hx : ∀ x ∈ o.op.operands, opA sA x = opA sE x)
    (low : ∀ x ∈ o.op.operands, ∀ p v, opA sA x = some (p, v) → p → AVB sA.next v) {q : Prop} {r : Option AV} {s : St} (h : opS P sE o = some (q, r, s)) (hq : q) : ∃ s2, opS P sA o = some (q, r, s2) := by
  unfold opS at h ⊢
  split at h <;> rename_i eo <;> first | (rw [eo] at hp hx low; simp only [pureOp] at hp) | (cases h; done)
  all_goals try (cases hp; done)
  all_goals try simp only [eo]
  · exact un_agree (hx _ (by simp [Op.operands])) (low _ (by simp [Op.operands])) h hq fun v q r s _ e _ => by cases e; exact ⟨_, rfl⟩
  · exact un_agree (hx _ (by simp [Op.operands])) (low _ (by simp [Op.operands])) h hq fun v q r s _ e _ => by cases e; exact ⟨_, rfl⟩
  · unfold pickS at h ⊢
    rw [hx _ (by simp [Op.operands]), hx _ (by simp [Op.operands]), hx _ (by simp [Op.operands])]
    split at h
    · cases h; exact ⟨_, rfl⟩
    · cases h
  · exact un_agree (hx _ (by simp [Op.operands])) (low _ (by simp [Op.operands])) h hq fun v q r s hv e _ => load_agree hob hv e
  · exact un_agree (hx _ (by simp [Op.operands])) (low _ (by simp [Op.operands])) h hq fun v q r s _ e hq => un_agree (hx _ (by simp [Op.operands])) (low _ (by simp [Op.operands])) e hq fun v q r s _ e _ => by
      refine ex_of_map (s2 := sA) ?_ e
      unfold binS
      split
      · split <;> rfl
      · split
        · split <;> rfl
        · split <;> rfl
        · rfl
      · rfl
  · exact un_agree (hx _ (by simp [Op.operands])) (low _ (by simp [Op.operands])) h hq fun v q r s _ e _ => by
      refine ex_of_map (s2 := sA) ?_ e
      unfold unS
      split
      · split <;> rfl
      · split <;> rfl
      · rfl
  · exact un_agree (hx _ (by simp [Op.operands])) (low _ (by simp [Op.operands])) h hq fun v q r s _ e _ => by
      refine ex_of_map (s2 := sA) ?_ e
      unfold convS
      split
      · split <;> rfl
      · split <;> rfl
      · rfl
  · exact un_agree (hx _ (by simp [Op.operands])) (low _ (by simp [Op.operands])) h hq fun v q r s hv e hq =>
      un?_agree (fun y hy => hx _ (by subst hy; simp [Op.operands])) (fun y hy => low _ (by subst hy; simp [Op.operands])) e hq fun v q r s e hq =>
      un?_agree (fun y hy => hx _ (by subst hy; simp [Op.operands])) (fun y hy => low _ (by subst hy; simp [Op.operands])) e hq fun v q r s e hq =>
      un?_agree (fun y hy => hx _ (by subst hy; simp [Op.operands])) (fun y hy => low _ (by subst hy; simp [Op.operands])) e hq fun v q r s e hq => slice_agree hob hv e
  · exact un_agree (hx _ (by simp [Op.operands])) (low _ (by simp [Op.operands])) h hq fun v q r s hv e _ => faddr_agree hob hv e
  · exact un_agree (hx _ (by simp [Op.operands])) (low _ (by simp [Op.operands])) h hq fun v q r s hv e _ => by
      refine ex_of_map (s2 := sA) ?_ e
      unfold fieldS
      split
      · split <;> rfl
      · rfl
  · exact un_agree (hx _ (by simp [Op.operands])) (low _ (by simp [Op.operands])) h hq fun v q r s hv e hq => un_agree (hx _ (by simp [Op.operands])) (low _ (by simp [Op.operands])) e hq fun v q r s _ e _ => iaddr_agree hob hv e
  · exact un_agree (hx _ (by simp [Op.operands])) (low _ (by simp [Op.operands])) h hq fun v q r s _ e hq => un_agree (hx _ (by simp [Op.operands])) (low _ (by simp [Op.operands])) e hq fun v q r s _ e _ => by
      refine ex_of_map (s2 := sA) ?_ e
      unfold indexS
      split
      · split <;> rfl
      · split
        · split <;> rfl
        · rfl
      · rfl
  · rename_i b args ts
    have hx' : ∀ x ∈ args, opA sA x = opA sE x := fun x hm => hx x (by simp [Op.operands, Call.operands]; exact hm)
    have low' : ∀ x ∈ args, ∀ p v, opA sA x = some (p, v) → p → AVB sA.next v := fun x hm => low x (by simp [Op.operands, Call.operands]; exact hm)
    have hmm : ∀ (m : Bool) (u v : AV), minmaxS sA m u v = (minmaxS sE m u v).map (reSt sA) := fun m u v => by
      unfold minmaxS
      split <;> rfl
    unfold builtinS at h ⊢
    split at h
    · rename_i x hxl
      have hm : x ∈ args := by rw [← Array.mem_toList_iff, hxl]; simp
      split at h
      · try simp only
        refine un_agree (hx' x hm) (low' x hm) h hq fun v q r s hv e _ => ?_
        split at e
        · split at e
          · rename_i hc
            simp only [hc, if_true]
            exact len_agree hob hv e
          · cases e
        · split at e
          · rename_i hc
            simp only [hc, if_true]
            exact len_agree hob hv e
          · cases e
      · cases hp
      · cases h
    · rename_i x y hxl
      have hm : x ∈ args := by rw [← Array.mem_toList_iff, hxl]; simp
      have hm2 : y ∈ args := by rw [← Array.mem_toList_iff, hxl]; simp
      split at h
      · cases hp
      · cases hp
      · exact un_agree (hx' x hm) (low' x hm) h hq fun v q r s hv e hq => un_agree (hx' y hm2) (low' y hm2) e hq fun v q r s _ e _ => ex_of_map (hmm _ _ _) e
      · exact un_agree (hx' x hm) (low' x hm) h hq fun v q r s hv e hq => un_agree (hx' y hm2) (low' y hm2) e hq fun v q r s _ e _ => ex_of_map (hmm _ _ _) e
      · cases h
    · cases h

/-- One operation that leaves memory alone, carried out where other objects have come. -/
theorem stepA_wp {sA sE : St} (h : SR B N sA β φ a w) (hob : ∀ k, sA.obj k = sE.obj k ∨ sE.obj k = .dead ∨ sA.next ≤ k) {ops : Array Oper} {o : Oper} {v : AV} (hnc : callV o.op = false)
    (hag : ∀ t ∈ Oper.looks ops o, find sA.env t = find sE.env t) (hs : stepD P ops sE o (· = v)) {next : Act → World → Prop} {Q : Exit → Act → World → Prop}
    (hnext : ∀ β' φ' w' x, SR B N sA β' φ' a w' → AVRel (sA.ctx w' β' φ') v x → next (a.put o.dst x) w') :
    if Region.wanted o (yielded ops a.tmps) then o.wp P a w next Q else next (a.put o.dst undef) w := by
  have h1 : ∀ x ∈ o.op.operands, opA sA x = opA sE x := fun x hx => by
    cases x with
    | tmp t =>
      have := hag t (by
        unfold Oper.looks
        refine List.mem_append_left _ (List.mem_filterMap.2 ⟨.tmp t, Array.mem_toList_iff.2 hx, rfl⟩))
      simp only [opA, this]
    | const c => rfl
    | func f => rfl
    | global g => rfl
  have low : ∀ x ∈ o.op.operands, ∀ p v, opA sA x = some (p, v) → p → AVB sA.next v := fun x _ p v hx hp => AVRel.low (C := sA.ctx w β φ) (opA_sound h hx hp)
  have nocall : ∀ {g : Bool} {K : AV → Prop}, ¬ condCall P sE o g K := fun {g K} hc => by
    unfold condCall callee at hc
    split at hc
    · rename_i e
      split at e
      · rename_i eo
        rw [eo] at hnc
        cases hnc
      · cases e
    · exact hc
  have pure : ∀ {q : Prop} {r : AV} {s : St}, pureOp o.op = true → opS P sE o = some (q, some r, s) → q → (∀ β' φ' w' x, SR B N sA β' φ' a w' → AVRel (sA.ctx w' β' φ') r x → next (a.put o.dst x) w') → o.wp P a w next Q := fun {q r s} hp eo hq hn => by
    obtain ⟨s2, eo2⟩ := opS_agree hob hp h1 low eo hq
    have hst := opS_pure hp eo2
    subst hst
    obtain ⟨β', φ', w', le, sr, he, hres⟩ := opS_sound h eo2 hq
    rcases hres with ⟨r', z, hr', hrun, hv⟩ | ⟨hr', _⟩
    · cases hr'
      unfold Oper.wp
      rw [hrun]
      exact hn β' φ' w' z sr hv
    · cases hr'
  unfold stepD at hs
  split at hs
  · rename_i eg
    have hw : Region.wanted o (yielded ops a.tmps) = true := by unfold Region.wanted; rw [eg]
    rw [hw]
    simp only [if_true]
    split at hs
    · rename_i hp
      split at hs
      · rename_i q r s eo
        obtain ⟨hq, rfl⟩ := hs
        exact pure hp eo hq hnext
      · exact hs.elim
    · exact (nocall hs).elim
  · rename_i j want eg
    split at hs
    · exact hs.elim
    · rename_i g ega
      have ega' : guardA ops sA j want = some g := by
        rw [← ega]
        unfold guardA
        cases e : (ops[j]?).bind (·.dst) with
        | none => rfl
        | some d =>
          simp only
          rw [hag d (by
            unfold Oper.looks
            rw [eg]
            refine List.mem_append_right _ ?_
            simp only [e]
            simp)]
      have hw := guardA_sound h eg ega'
      rw [hw]
      split at hs
      · rename_i hp
        split at hs
        · rename_i q r s eo
          obtain ⟨hpv, hq, rfl⟩ := hs
          cases g with
          | true =>
            simp only [if_true]
            exact pure hp eo (hq rfl) fun β' φ' w' x sr hv => hnext β' φ' w' x sr ⟨fun _ => AV.pv hpv hv, fun hf => by cases hf⟩
          | false =>
            simp only [Bool.false_eq_true, if_false]
            exact hnext β φ w undef h ⟨fun hf => (by cases hf), fun _ => rfl⟩
        · exact hs.elim
      · exact (nocall hs).elim

/-- What is known when some operations have been carried out, calls with new objects among them. -/
def DrawnE (B : Base) (N : Nat) (st : St) (ops : Array Oper) (vs : List AV) (xs : List (List AObj)) (listed : Array Bool) (a : Act) (w : World) : Prop :=
  ∃ β φ env b, b ≤ ops.size ∧ SR B N { grow xs b st with env := env } β φ a w ∧
    (∀ (j : Nat) (o : Oper), ops[j]? = some o → callV o.op = true → (listed.getD j true = true ↔ j < b)) ∧
    (∀ (j : Nat) (o : Oper) (d : Nat) (v : AV), ops[j]? = some o → o.dst = some d → vs[j]? = some v → listed.getD j false = true → find env d = some v) ∧
    (∀ t, (∀ (j : Nat) (o : Oper), ops[j]? = some o → listed.getD j false = true → o.dst ≠ some t) → find env t = find st.env t)

theorem anyE_wp {ops : Array Oper} {Q : Exit → Act → World → Prop} {K : St → Prop} (hok : drawOk ops N = true) (heff : effOk ops = true) (hdead : ∀ k, st.next ≤ k → st.obj k = .dead) {vs : List AV} {xs : List (List AObj)} (hvs : vs.length = ops.toList.length) (hxs : xs.length = ops.toList.length)
    (hst : ∀ (j : Nat) (o : Oper) (v : AV) (x : List AObj), ops.toList[j]? = some o → vs[j]? = some v → xs[j]? = some x → StepE P ops (preE ops.toList vs xs j st) o v x) (hK : K (preE ops.toList vs xs ops.toList.length st))
    (hQ : ∀ st' β φ a w, SR B N st' β φ a w → K st' → Q .normal a w) : ∀ (fuel : Nat) (listed : Array Bool), listed.size = ops.size → cnt listed ops.size = fuel → (∀ (j : Nat) (o : Oper), ops[j]? = some o → listed.getD j true = true → ∀ e ∈ o.after, Region.binds .any e = true → listed.getD e.on true = true) → ∀ {a : Act} {w : World}, DrawnE B N st ops vs xs listed a w → wpAny P .any ops Q fuel listed a w := by
  obtain ⟨hs1, hs2⟩ := drawOk_spec hok
  have hlen : ops.toList.length = ops.size := Array.length_toList
  have hdst : ∀ (i : Nat) (o : Oper), ops.toList[i]? = some o → ∃ d, o.dst = some d := fun i o hi => by
    obtain ⟨⟨d, hd, _⟩, _⟩ := hs1 i o (by simpa using hi)
    exact ⟨d, hd⟩
  have huniq : ∀ (i i' : Nat) (o o' : Oper), ops.toList[i]? = some o → ops.toList[i']? = some o' → o.dst = o'.dst → i = i' := fun i i' o o' h1 h2 he =>
    (hs2 i i' o o' (by simpa using h1) (by simpa using h2)).1 he
  have hfp := fun j hj => find_pre ops.toList vs j st hvs hdst huniq hj
  have hnocall : ∀ (j : Nat) (o : Oper) (x : List AObj), ops[j]? = some o → xs[j]? = some x → callV o.op = false → x = [] := fun j o x ho hx hc => by
    have hj : j < ops.size := (Array.getElem?_eq_some_iff.1 ho).1
    have hjv : vs[j]? = some (vs[j]'(by rw [hvs]; omega)) := List.getElem?_eq_getElem _
    rcases hst j o _ x (by simpa using ho) hjv hx with ⟨h1, _⟩ | ⟨h1, _⟩
    · exact h1
    · rw [hc] at h1; cases h1
  have hready : ∀ listed : Array Bool, listed.size = ops.size → Region.ready .any ops listed = [] → ∀ k, k < ops.size → listed.getD k true = true := fun listed hsz hr k => by
    induction k using Nat.strongRecOn with
    | _ k ih =>
      intro hk
      apply Classical.byContradiction
      intro hn
      have hn' : listed.getD k true = false := by simpa using hn
      have hmem : k ∈ Region.ready .any ops listed := mem_ready.2 ⟨hn', ops[k], Array.getElem?_eq_getElem hk, fun e he hb => by
        have hlt := (hs1 k ops[k] (Array.getElem?_eq_getElem hk)).2 e he hb
        have := ih e.on hlt (by omega)
        rw [Array.getD_eq_getD_getElem?, Array.getElem?_eq_getElem (by omega)] at this ⊢
        exact this⟩
      rw [hr] at hmem
      cases hmem
  have hall : ∀ (listed : Array Bool) {a : Act} {w : World}, listed.size = ops.size → (∀ k, k < ops.size → listed.getD k true = true) → DrawnE B N st ops vs xs listed a w → Q .normal a w := fun listed a w hsz hl hD => by
    obtain ⟨β, φ, env, b, hb, sr, hc, d1, d2⟩ := hD
    obtain ⟨env', he⟩ := preE_grow ops.toList vs xs ops.toList.length st hvs hxs
    have henv : env' = (pre ops.toList vs ops.toList.length st).env := by
      rw [← preE_env ops.toList vs xs ops.toList.length st st hvs hxs rfl, he]
    have hgs : grow xs ops.toList.length st = grow xs b st := grow_same xs st (by omega) (by omega) fun k x h1 h2 hx => by
      have hk : k < ops.size := by omega
      cases hcv : callV (ops[k]).op with
      | false => exact hnocall k _ x (Array.getElem?_eq_getElem hk) hx hcv
      | true =>
        have := (hc k _ (Array.getElem?_eq_getElem hk) hcv).1 (hl k hk)
        omega
    rw [he, hgs] at hK
    refine hQ _ β φ a w (sr.forget env' fun t v hv => ?_) hK
    obtain ⟨f1, f2⟩ := hfp ops.toList.length (Nat.le_refl _)
    rw [← henv] at f1 f2
    by_cases hex : ∃ (j : Nat) (o : Oper), ops[j]? = some o ∧ o.dst = some t
    · obtain ⟨j, o, ho, hd⟩ := hex
      have hj : j < ops.size := (Array.getElem?_eq_some_iff.1 ho).1
      have hjv : vs[j]? = some (vs[j]'(by rw [hvs]; simpa using hj)) := List.getElem?_eq_getElem _
      have h1 := f1 j o t _ (by simpa using hj) (by simpa using ho) hd hjv
      have h2 := d1 j o t _ ho hd hjv (by rw [getD_tf hsz hj false true]; exact hl j hj)
      have hv' : find env' t = some v := hv
      rw [h1] at hv'
      cases hv'
      exact h2
    · have hno : ∀ (j : Nat) (o : Oper), ops[j]? = some o → o.dst ≠ some t := fun j o ho hd => hex ⟨j, o, ho, hd⟩
      have h1 := f2 t (fun i o _ ho => hno i o (by simpa using ho))
      have hv' : find env' t = some v := hv
      rw [h1] at hv'
      rw [← d2 t (fun j o ho _ => hno j o ho)] at hv'
      exact hv'
  intro fuel
  induction fuel with
  | zero =>
    intro listed hsz hc hcl a w hD
    have hl := cnt_zero hc
    refine ⟨?_, hall listed hsz hl hD⟩
    refine List.eq_nil_iff_forall_not_mem.2 fun k hk => ?_
    obtain ⟨h1, o, ho, _⟩ := mem_ready.1 hk
    rw [hl k (Array.getElem?_eq_some_iff.1 ho).1] at h1
    cases h1
  | succ fuel ih =>
    intro listed hsz hc hcl a w hD
    refine ⟨fun hr => hall listed hsz (hready listed hsz hr) hD, fun i hi => ?_⟩
    obtain ⟨hun, o, ho, hedge⟩ := mem_ready.1 hi
    have hin : i < ops.size := (Array.getElem?_eq_some_iff.1 ho).1
    obtain ⟨β, φ, env, b, hb, sr, hcb, d1, d2⟩ := hD
    obtain ⟨⟨d, hd, hdN⟩, hfor⟩ := hs1 i o ho
    have hiv : vs[i]? = some (vs[i]'(by rw [hvs]; simpa using hin)) := List.getElem?_eq_getElem _
    have hix : xs[i]? = some (xs[i]'(by rw [hxs]; simpa using hin)) := List.getElem?_eq_getElem _
    generalize vs[i]'(by rw [hvs]; simpa using hin) = v at hiv
    generalize xs[i]'(by rw [hxs]; simpa using hin) = x at hix
    obtain ⟨env', he⟩ := preE_grow ops.toList vs xs i st hvs hxs
    have henv : env' = (pre ops.toList vs i st).env := by
      rw [← preE_env ops.toList vs xs i st st hvs hxs rfl, he]
    obtain ⟨f1, f2⟩ := hfp i (by simp; omega)
    rw [← henv] at f1 f2
    have hs := hst i o v x (by simpa using ho) hiv hix
    rw [he] at hs
    have hag : ∀ t ∈ Oper.looks ops o, find env t = find env' t := fun t ht => by
      by_cases hex : ∃ (j : Nat) (p : Oper), ops[j]? = some p ∧ p.dst = some t
      · obtain ⟨j, p, hp, hpd⟩ := hex
        have hj : j < ops.size := (Array.getElem?_eq_some_iff.1 hp).1
        rcases (hs2 j i p o hp ho).2 t hpd ht with ⟨e, hem, hb, hon⟩ | ⟨hij, e, hem, hb, hon⟩
        · have hlt : j < i := by have := hfor e hem hb; omega
          have hjv : vs[j]? = some (vs[j]'(by rw [hvs]; simpa using hj)) := List.getElem?_eq_getElem _
          have h1 : find env' t = _ := f1 j p t _ hlt (by simpa using hp) hpd hjv
          have h2 := d1 j p t _ hp hpd hjv (by rw [← hon]; exact hedge e hem hb)
          rw [h1, h2]
        · have h1 : find env' t = find st.env t := f2 t (fun k p' hk hp' hd' => by
            have := (hs2 k j p' p (by simpa using hp') hp).1 (by rw [hd', hpd])
            omega)
          have h2 : find env t = find st.env t := d2 t (fun k p' hp' hl hd' => by
            have hkj := (hs2 k j p' p hp' hp).1 (by rw [hd', hpd])
            subst hkj
            rw [hp] at hp'
            cases hp'
            have := hcl k p hp (by rw [getD_tf hsz hj true false]; exact hl) e hem hb
            rw [hon, hun] at this
            cases this)
          rw [h1, h2]
      · have hno : ∀ (j : Nat) (p : Oper), ops[j]? = some p → p.dst ≠ some t := fun j p hp hpd => hex ⟨j, p, hp, hpd⟩
        have h1 : find env' t = _ := f2 t (fun k p _ hp => hno k p (by simpa using hp))
        rw [h1, d2 t (fun j p hp _ => hno j p hp)]
    have hops : ∀ t, Operand.tmp t ∈ o.op.operands → find env t = find env' t := fun t ht => hag t (by
      unfold Oper.looks
      refine List.mem_append_left _ (List.mem_filterMap.2 ⟨.tmp t, Array.mem_toList_iff.2 ht, rfl⟩))
    -- what is known behind the operation
    have again : ∀ {β' : Nat → Info} {φ' : Nat → List Nat} {w' : World} {x' : Value} (b' : Nat), b' ≤ ops.size → SR B N { grow xs b' st with env := env } β' φ' a w' → AVRel (({ grow xs b' st with env := env } : St).ctx w' β' φ') v x' →
        (∀ (j : Nat) (p : Oper), ops[j]? = some p → callV p.op = true → ((listed.setIfInBounds i true).getD j true = true ↔ j < b')) → wpAny P .any ops Q fuel (listed.setIfInBounds i true) (a.put o.dst x') w' := fun {β' φ' w' x'} b' hb' sr' hv hcb' => by
      refine ih (listed.setIfInBounds i true) (by simpa using hsz) (by have := cnt_set listed i hun ops.size hin; omega) (closed_set hsz ho hin (fun e he hb => by have := hedge e he hb; rw [Array.getD_eq_getD_getElem?] at this ⊢; cases hx : listed[e.on]? with | none => rfl | some x => rw [hx] at this; exact this) hcl) ⟨β', φ', (d, v) :: env, b', hb', ?_, hcb', fun j p t u hp hpd hju hlj => ?_, fun t ht => ?_⟩
      · rw [hd]
        exact sr'.put (st := { grow xs b' st with env := env }) hdN hv
      · by_cases e : j = i
        · subst e
          rw [ho] at hp
          cases hp
          rw [hd] at hpd
          cases hpd
          rw [hiv] at hju
          cases hju
          exact find_cons_self ..
        · have hne : t ≠ d := fun et => e ((hs2 j i p o hp ho).1 (by rw [hpd, hd, et]))
          rw [find_cons_ne _ _ hne]
          refine d1 j p t u hp hpd hju ?_
          rwa [getD_set_ne false (Ne.symm e)] at hlj
      · have hne : t ≠ d := fun et => ht i o ho (by rw [Array.getD_eq_getD_getElem?, Array.getElem?_setIfInBounds_self]; simp [hsz, hin]) (by rw [hd, et])
        rw [find_cons_ne _ _ hne]
        exact d2 t (fun j p hp hl => ht j p hp (by
          by_cases e : j = i
          · subst e; rw [Array.getD_eq_getD_getElem?, Array.getElem?_setIfInBounds_self]; simp [hsz, hin]
          · rw [getD_set_ne false (Ne.symm e)]; exact hl))
    have hset : ∀ j, j ≠ i → (listed.setIfInBounds i true).getD j true = listed.getD j true := fun j hj => getD_set_ne true (Ne.symm hj)
    have hseti : (listed.setIfInBounds i true).getD i true = true := by
      rw [Array.getD_eq_getD_getElem?, Array.getElem?_setIfInBounds_self]
      simp [hsz, hin]
    unfold wpOp
    rw [ho]
    simp only
    cases hcv : callV o.op with
    | true =>
      -- a call: the calls before it have been made, none behind it
      have hbi : b ≤ i := by
        apply Classical.byContradiction
        intro hn
        have := (hcb i o ho hcv).2 (by omega)
        rw [this] at hun
        cases hun
      have hprev : ∀ k p, k < i → ops[k]? = some p → callV p.op = true → k < b := fun k p hk hp hcp => by
        obtain ⟨e, hem, hbn, hon⟩ := effOk_spec heff hp ho hk hcp hcv
        have hl := hedge e hem hbn
        rw [hon] at hl
        exact (hcb k p hp hcp).1 (by rw [getD_tf hsz (Array.getElem?_eq_some_iff.1 hp).1 true false]; exact hl)
      have hgs : grow xs i st = grow xs b st := grow_same xs st hbi (by omega) fun k x' h1 h2 hx => by
        have hk : k < ops.size := by omega
        cases hck : callV (ops[k]).op with
        | false => exact hnocall k _ x' (Array.getElem?_eq_getElem hk) hx hck
        | true =>
          have := hprev k _ h2 (Array.getElem?_eq_getElem hk) hck
          omega
      have hcb' : ∀ (j : Nat) (p : Oper), ops[j]? = some p → callV p.op = true → ((listed.setIfInBounds i true).getD j true = true ↔ j < i + 1) := fun j p hp hcp => by
        by_cases e : j = i
        · subst e
          rw [hseti]
          simp
        · rw [hset j e, hcb j p hp hcp]
          constructor
          · intro h1; omega
          · intro h1
            exact hprev j p (by omega) hp hcp
      rw [← hgs] at sr
      rcases hs with ⟨hx, hs⟩ | ⟨_, hg, hs⟩
      · subst hx
        have hs' : stepD P ops { grow xs i st with env := env } o (· = v) := stepD_env (st := { grow xs i st with env := env' }) (fun t ht => hag t ht) hs
        have hg1 : grow xs (i + 1) st = grow xs i st := by rw [grow_succ xs i st [] hix, after_nil]
        have hwp := stepD_wp (Q := Q) (next := wpAny P .any ops Q fuel (listed.setIfInBounds i true)) sr hs' (fun β' φ' w' x' sr' hv =>
          again (i + 1) (by omega) (by rw [hg1]; exact sr') (by rw [hg1]; exact hv) hcb')
        split at hwp
        · rename_i hw
          rw [if_pos hw]
          exact .inl hwp
        · rename_i hw
          rw [if_neg hw]
          exact hwp
      · have hs' := effQ_env (st := { grow xs i st with env := env' }) (env := env) (fun t ht => hops t ht) hs
        have hw : Region.wanted o (yielded ops a.tmps) = true := by unfold Region.wanted; rw [hg]
        rw [if_pos hw]
        refine .inl (effQ_wp sr hs' fun β' φ' w' st' r x' sr' hv ⟨hr, hst'⟩ => ?_)
        subst hr
        subst hst'
        have hg1 : grow xs (i + 1) st = (grow xs i st).after [] x := grow_succ xs i st x hix
        have hg2 : St.after { grow xs i st with env := env } [] x = { grow xs (i + 1) st with env := env } := by rw [hg1]; rfl
        rw [hg2] at sr' hv
        exact again (i + 1) (by omega) sr' hv hcb'
    | false =>
      rcases hs with ⟨hx, hs⟩ | ⟨hc', _⟩
      · have hob : ∀ k, ({ grow xs b st with env := env } : St).obj k = ({ grow xs i st with env := env' } : St).obj k ∨ ({ grow xs i st with env := env' } : St).obj k = .dead ∨ ({ grow xs b st with env := env } : St).next ≤ k := fun k => by
          show (grow xs b st).obj k = (grow xs i st).obj k ∨ (grow xs i st).obj k = .dead ∨ (grow xs b st).next ≤ k
          rcases Nat.le_total b i with hbi | hbi
          · by_cases hk : k < (grow xs b st).next
            · exact .inl ((grow_mono xs st hbi (by omega)).2 k hk).symm
            · exact .inr (.inr (by omega))
          · by_cases hk : k < (grow xs i st).next
            · exact .inl ((grow_mono xs st hbi (by omega)).2 k hk)
            · exact .inr (.inl (grow_dead xs i st hdead k (by omega)))
        have hwp := stepA_wp (Q := Q) (next := wpAny P .any ops Q fuel (listed.setIfInBounds i true)) sr hob hcv (fun t ht => hag t ht) hs (fun β' φ' w' x' sr' hv =>
          again b hb sr' hv (fun j p hp hcp => by
            have e : j ≠ i := fun e => by subst e; rw [ho] at hp; cases hp; rw [hcv] at hcp; cases hcp
            rw [hset j e]
            exact hcb j p hp hcp))
        split at hwp
        · rename_i hw
          rw [if_pos hw]
          exact .inl hwp
        · rename_i hw
          rw [if_neg hw]
          exact hwp
      · rw [hcv] at hc'; cases hc'

theorem draw_wp {ops : Array Oper} {id : Nat} {Q : Exit → Act → World → Prop} {K : St → Prop} (hm : P.follows .mixedOrders = true) (hok : drawOk ops N = true)
    (hQ : ∀ st' β φ a w, SR B N st' β φ a w → K st' → Q .normal a w) (h : SR B N st β φ a w) (hq : drawQ P ops ops.toList st K) : (Code.region id ops true).wp P Q a w := by
  rcases drawQ_ex _ _ hq with ⟨vs, hvs, hst, hK⟩ | ⟨l', ol, vs, hl, hvs, hst, hlast, hg, hK⟩ | ⟨heff, vs, xs, hvs, hxs, hst, hK⟩
  · refine wp_region_any hm (any_wp hok hvs hst hK hQ ops.size _ (by simp) (cnt_replicate _ _ (Nat.le_refl _)) (fun j o ho hj => absurd hj (by rw [Array.getD_eq_getD_getElem?, Array.getElem?_eq_getElem (by simpa using (Array.getElem?_eq_some_iff.1 ho).1)]; simp)) ⟨β, φ, st.env, h.drew.2, fun j o d v ho _ _ hl => ?_, fun t _ => rfl⟩)
    rw [Array.getD_eq_getD_getElem?] at hl
    have hj : j < ops.size := (Array.getElem?_eq_some_iff.1 ho).1
    rw [Array.getElem?_eq_getElem (by simpa using hj)] at hl
    simp at hl
  · have hsize : ops.size = l'.length + 1 := by rw [← Array.length_toList, hl]; simp
    have hf : ∀ k, k < ops.size → (Array.replicate ops.size false).getD k true = false := fun k hk => by
      rw [Array.getD_eq_getD_getElem?, Array.getElem?_eq_getElem (by simpa using hk)]
      simp
    refine wp_region_any hm (anyL_wp hok hlast hl hvs hst hg hK hQ ops.size _ (by simp) (cnt_replicate _ _ (Nat.le_refl _)) (fun j o ho hj => ?_) (hf _ (by omega)) ⟨β, φ, st.env, h.drew.2, fun j o d v ho _ _ hlj => ?_, fun t _ => rfl⟩)
    · rw [hf j (Array.getElem?_eq_some_iff.1 ho).1] at hj
      cases hj
    · have hj : j < l'.length := by simpa using (Array.getElem?_eq_some_iff.1 ho).1
      rw [Array.getD_eq_getD_getElem?, Array.getElem?_eq_getElem (by simp; omega)] at hlj
      simp at hlj
  · have hf : ∀ k, k < ops.size → (Array.replicate ops.size false).getD k true = false := fun k hk => by
      rw [Array.getD_eq_getD_getElem?, Array.getElem?_eq_getElem (by simpa using hk)]
      simp
    refine wp_region_any hm (anyE_wp hok heff h.dead hvs hxs hst hK hQ ops.size _ (by simp) (cnt_replicate _ _ (Nat.le_refl _)) (fun j o ho hj => absurd hj (by rw [Array.getD_eq_getD_getElem?, Array.getElem?_eq_getElem (by simpa using (Array.getElem?_eq_some_iff.1 ho).1)]; simp)) ⟨β, φ, st.env, 0, Nat.zero_le _, ?_, fun j o ho _ => ?_, fun j o d v ho _ _ hl => ?_, fun t _ => rfl⟩)
    · have hg0 : grow xs 0 st = st := by cases xs <;> rfl
      rw [hg0]
      exact h.drew.2
    · rw [hf j (Array.getElem?_eq_some_iff.1 ho).1]
      simp
    · rw [Array.getD_eq_getD_getElem?] at hl
      have hj : j < ops.size := (Array.getElem?_eq_some_iff.1 ho).1
      rw [Array.getElem?_eq_getElem (by simpa using hj)] at hl
      simp at hl
end
end Go.Abs
