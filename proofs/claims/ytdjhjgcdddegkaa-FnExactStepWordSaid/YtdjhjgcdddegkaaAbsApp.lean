/- append. -/
import Derived.Test.YtdjhjgcdddegkaaAbsBuild
namespace Go.Abs
set_option linter.unusedVariables false

/-- An element's type whose cells hold no slice. -/
def tflat (P : Program) (t : TypeId) : Bool :=
  match tz P t with
  | some ds => ds.all D.flat
  | none => false

/-- What is appended: width, rows, exclusively (of the objects that are used up) or not, the objects used up; under which condition. -/
def srcS (st : St) (fl : Bool) (s : Nat) : AV → Option (Prop × Nat × List (List D) × Bool × List Nat)
  | .one (.own o) => match st.obj o with
    | .vec sz sep rows => if fl then some ((∀ r ∈ rows, ∀ d ∈ r, d.flat = true), sz, rows, true, []) else if sep then some (True, sz, rows, true, [o]) else some (True, sz, rows, false, [])
    | .frz sz rows => if fl then some ((∀ r ∈ rows, ∀ d ∈ r, d.flat = true), sz, rows, true, []) else some (True, sz, rows, false, [])
    | _ => none
  | .one (.dat (.sl sz rows)) => if fl then some ((∀ r ∈ rows, ∀ d ∈ r, d.flat = true), sz, rows, true, []) else some (True, sz, rows, false, [])
  | .one .emp => some (True, s, [], true, [])
  | _ => none

def appendS (P : Program) (st : St) (t : TypeId) (u v : AV) : Out :=
  match te P t with
  | some (e, s, y) => match tz P e, srcS st (tflat P e) s v with
    | some zs, some (q, sz2, rows2, sep2, ks2) =>
      match u with
      | .one (.own o) => match st.obj o with
        | .vec sz1 sep1 rows1 => some (q ∧ sz1 = s ∧ sz2 = s ∧ 0 < s ∧ zs.length = s ∧ o ∉ ks2 ∧ (rows1.length + rows2.length) * y ≤ 140737488355328 ∧ rows1.length + rows2.length ≤ 9223372036854775807,
            some (.one (.own st.next)), (killAll st (o :: ks2)).addObj (.vec s (sep1 && sep2) (rows1 ++ rows2)))
        | _ => none
      | .one .emp => some (q ∧ sz2 = s ∧ 0 < s ∧ zs.length = s ∧ rows2.length * y ≤ 140737488355328 ∧ rows2.length ≤ 9223372036854775807,
            some (.one (.own st.next)), (killAll st ks2).addObj (.vec s sep2 rows2))
      | _ => none
    | _, _ => none
  | none => none

section
variable {P : Program} {B : Base} {N : Nat} {st st' : St} {β : Nat → Info} {φ : Nat → List Nat} {a : Act} {w w' : World}

theorem lt_next (h : SR B N st β φ a w) {o : Nat} (e : st.obj o ≠ .dead) : o < st.next := by
  apply Classical.byContradiction
  intro hn
  exact e (h.dead o (by omega))

/-- A new vector that has no memory yet. -/
theorem SR.newVec0 (h : SR B N st β φ a w) {ks : List Nat} (hks : ∀ o ∈ ks, o < st.next) (sz : Nat) (sep : Bool) (base : Option Addr) :
    ∃ β' φ', (st.ctx w β φ).Le (((killAll st ks).addObj (.vec sz sep [])).ctx w β' φ') ∧ SR B N ((killAll st ks).addObj (.vec sz sep [])) β' φ' a w ∧
      AVRel (((killAll st ks).addObj (.vec sz sep [])).ctx w β' φ') (.one (.own st.next)) (.slice base 0 0) := by
  have hnk : st.next ∉ ks := fun hm => Nat.lt_irrefl _ (hks _ hm)
  have hob : ∀ o, o ≠ st.next → o ∉ ks → ((killAll st ks).addObj (.vec sz sep [])).obj o = st.obj o := fun o h1 h2 =>
    (St.obj_addObj_ne _ _ (by rw [killAll_next]; exact h1)).trans (killAll_out ks st o h2)
  have hobn : ((killAll st ks).addObj (.vec sz sep [])).obj st.next = .vec sz sep [] := by
    have := St.obj_addObj_same (killAll st ks) (.vec sz sep [])
    rwa [killAll_next] at this
  have hobk : ∀ o, o ∈ ks → ((killAll st ks).addObj (.vec sz sep [])).obj o = .dead := fun o ho =>
    (St.obj_addObj_ne _ _ (by rw [killAll_next]; exact fun e => hnk (e ▸ ho))).trans (killAll_in ks st o ho)
  let β' := upd β st.next ⟨base, 0⟩
  let φ' : Nat → List Nat := fun o => if o = st.next then [] else if o ∈ ks then [] else φ o
  have hφn : φ' st.next = [] := if_pos rfl
  have hφk : ∀ o, o ∈ ks → φ' o = [] := fun o ho => by
    have hne : o ≠ st.next := fun e => hnk (e ▸ ho)
    show (if o = st.next then [] else if o ∈ ks then [] else φ o) = []
    rw [if_neg hne, if_pos ho]
  have hφo : ∀ o, o ≠ st.next → o ∉ ks → φ' o = φ o := fun o h1 h2 => by
    show (if o = st.next then [] else if o ∈ ks then [] else φ o) = φ o
    rw [if_neg h1, if_neg h2]
  have hβn : β' st.next = ⟨base, 0⟩ := upd_same ..
  obtain ⟨le, sr⟩ := h.change (st' := (killAll st ks).addObj (.vec sz sep [])) (β' := β') (φ' := φ') (w' := w) (fun o => o = st.next ∨ o ∈ ks)
    (killAll_env ks st) (by show st.next ≤ (killAll st ks).next + 1; rw [killAll_next]; omega)
    (fun o ho => hob o (fun e => ho (.inl e)) (fun e => ho (.inr e))) (fun o ho => upd_ne _ _ (by omega)) (fun o ho => hφo o (fun e => ho (.inl e)) (fun e => ho (.inr e)))
    (fun o ho => by
      have ho' : (killAll st ks).next + 1 ≤ o := ho
      rw [killAll_next] at ho'
      by_cases hk : o ∈ ks
      · exact hobk o hk
      · rw [hob o (by omega) hk]; exact h.dead o (by omega))
    (fun o ho hl => by
      rcases ho with ho | ho
      · omega
      · rw [hobk o ho]; exact ⟨by cases st.obj o <;> trivial, fun hd => absurd rfl hd⟩)
    (Frm.refl w _)
    (fun le o ho => by
      unfold ObjRel
      rcases ho with ho | ho
      · subst ho
        rw [show (((killAll st ks).addObj (.vec sz sep [])).ctx w β' φ').ob st.next = _ from hobn]
        exact ⟨by simp, by simp, .inl ⟨hφn, by show (β' st.next).cap = 0; rw [hβn]⟩⟩
      · rw [show (((killAll st ks).addObj (.vec sz sep [])).ctx w β' φ').ob o = _ from hobk o ho]
        exact hφk o ho)
    (fun o ho => by
      rcases ho with ho | ho
      · subst ho; rw [hφn]; exact List.nodup_nil
      · rw [hφk o ho]; exact List.nodup_nil)
    (fun o ho x hx => by
      rcases ho with ho | ho
      · subst ho; rw [hφn] at hx; cases hx
      · rw [hφk o ho] at hx; cases hx)
    (fun o o' ho ho' hne x hx hx' => by
      rcases ho with ho | ho
      · subst ho; rw [hφn] at hx; cases hx
      · rw [hφk o ho] at hx; cases hx)
  refine ⟨β', φ', le, sr, ⟨by show st.next < (killAll st ks).next + 1; rw [killAll_next]; omega, ?_⟩⟩
  rw [show (((killAll st ks).addObj (.vec sz sep [])).ctx w β' φ').ob st.next = _ from hobn]
  show Value.slice _ _ _ = .slice (β' st.next).base 0 (β' st.next).cap
  rw [hβn]

/-- What the second operand of append is in memory. -/
structure Src (w : World) (M : Nat → Prop) (φ : Nat → List Nat) (s : Nat) (rows : List (List D)) (sep : Bool) (ks : List Nat) (v : Value) : Prop where
  wid : ∀ r ∈ rows, r.length = s
  val : ∃ base cap, v = .slice base rows.length cap ∧ ∃ S us, RepL w rows.flatten us S ∧
    (rows ≠ [] → ∃ b off, base = some ⟨b, off, none⟩ ∧ ∀ (j : Nat) (u : Value), us[j]? = some u → w.cell? ⟨b, off + j, none⟩ = some u) ∧
    (sep = true → S.Nodup ∧ ∀ x ∈ S, ∃ o ∈ ks, x ∈ φ o) ∧ (sep = false → ∀ x ∈ S, ¬ M x)

theorem src_of_rep {s : Nat} {M : Nat → Prop} {rows : List (List D)} {v : Value} {S : List Nat} {sep : Bool} {ks : List Nat} (hr : Rep w (.sl s rows) v S)
    (hs : sep = true → ∀ us S', RepL w rows.flatten us S' → S'.Sublist S → S'.Nodup ∧ ∀ x ∈ S', ∃ o ∈ ks, x ∈ φ o) (hl : sep = false → ∀ x ∈ S, ¬ M x) : Src w M φ s rows sep ks v := by
  cases hr with
  | nil => exact ⟨by simp, _, _, rfl, [], [], .nil, fun h => absurd rfl h, fun hsep => ⟨List.nodup_nil, by simp⟩, fun _ => by simp⟩
  | sl _ _ b off cap vs S hb hsz hrl hc =>
    exact ⟨hsz, _, _, rfl, S, vs, hrl, fun _ => ⟨b, off, rfl, hc⟩, fun hsep => hs hsep vs S hrl (List.sublist_cons_self ..), fun hsep x hx => hl hsep x (List.mem_cons_of_mem _ hx)⟩

theorem flat_S {rows : List (List D)} (h : ∀ r ∈ rows, ∀ d ∈ r, d.flat = true) {us : List Value} {S : List Nat} (hr : RepL w rows.flatten us S) : S = [] :=
  hr.flat (fun d hd => by
    obtain ⟨r, hr, hd⟩ := List.mem_flatten.1 hd
    exact h r hr d hd)

theorem srcS_sound (h : SR B N st β φ a w) {fl : Bool} {s sz : Nat} {rows : List (List D)} {sep : Bool} {ks : List Nat} {v : AV} {q : Prop} (hs : srcS st fl s v = some (q, sz, rows, sep, ks)) (hq : q) (hsz : sz = s) {x : Value}
    (hv : AVRel (st.ctx w β φ) v x) : Src w (fun b => ∃ o, b ∈ φ o) φ s rows sep ks x ∧ ∀ o ∈ ks, o < st.next := by
  subst hsz
  unfold srcS at hs
  split at hs
  · rename_i o
    obtain ⟨hn, hp⟩ := hv
    split at hs
    · rename_i sz' sep' rows' eo
      rw [show (st.ctx w β φ).ob o = _ from eo] at hp
      simp only at hp
      subst hp
      obtain ⟨S, hr, hS1, hS2⟩ := vec_rep h eo
      split at hs
      · simp only [Option.some.injEq, Prod.mk.injEq] at hs
        obtain ⟨rfl, rfl, rfl, rfl, rfl⟩ := hs
        exact ⟨src_of_rep hr (fun _ us S' hr' _ => by rw [flat_S hq hr']; simp) (by simp), by simp⟩
      · split at hs
        · rename_i hsep
          simp only [Option.some.injEq, Prod.mk.injEq] at hs
          obtain ⟨rfl, rfl, rfl, rfl, rfl⟩ := hs
          refine ⟨src_of_rep hr (fun _ us S' hr' hsub => ?_) (by simp), fun o' ho' => by simp at ho'; subst ho'; exact hn⟩
          exact ⟨hsub.nodup (hS1 hsep).1, fun y hy => ⟨o, by simp, (hS1 hsep).2 y (hsub.subset hy)⟩⟩
        · rename_i hsep
          simp only [Option.some.injEq, Prod.mk.injEq] at hs
          obtain ⟨rfl, rfl, rfl, rfl, rfl⟩ := hs
          have hsep' : sep' = false := by simpa using hsep
          subst hsep'
          have ho := h.objs o
          unfold ObjRel at ho
          rw [show (st.ctx w β φ).ob o = _ from eo] at ho
          obtain ⟨hwid, hcap, ho⟩ := ho
          refine ⟨⟨hwid, _, _, rfl, ?_⟩, by simp⟩
          rcases ho with ⟨_, h0⟩ | ⟨b, T, S', E, vs, hb, hheap, hvs, hrep, hφ, hM⟩
          · have h0' : (β o).cap = 0 := h0
            have : rows' = [] := List.eq_nil_of_length_eq_zero (by have : rows'.length ≤ (β o).cap := hcap; omega)
            subst this
            exact ⟨[], [], .nil, fun h => absurd rfl h, by simp, by simp⟩
          · exact ⟨S', _, hrep, fun _ => ⟨b, 0, hb, fun j u hj => by
              rw [Nat.zero_add]
              refine (cell_of_heap hheap).trans ?_
              rw [← Array.getElem?_toList]
              rw [List.getElem?_take] at hj
              split at hj
              · exact hj
              · cases hj⟩, by simp, fun _ => hM⟩
    · rename_i sz' rows' eo
      rw [show (st.ctx w β φ).ob o = _ from eo] at hp
      simp only at hp
      subst hp
      have ho := h.objs o
      unfold ObjRel at ho
      rw [show (st.ctx w β φ).ob o = _ from eo] at ho
      obtain ⟨_, _, S, hr, hM⟩ := ho
      have hr' : Rep w (.sl sz' rows') (.slice (β o).base rows'.length (β o).cap) S := hr
      split at hs
      · simp only [Option.some.injEq, Prod.mk.injEq] at hs
        obtain ⟨rfl, rfl, rfl, rfl, rfl⟩ := hs
        exact ⟨src_of_rep hr' (fun _ us S' hr' _ => by rw [flat_S hq hr']; simp) (by simp), by simp⟩
      · simp only [Option.some.injEq, Prod.mk.injEq] at hs
        obtain ⟨rfl, rfl, rfl, rfl, rfl⟩ := hs
        exact ⟨src_of_rep hr' (by simp) (fun _ => hM), by simp⟩
    · cases hs
  · rename_i sz' rows'
    obtain ⟨S, hr, hM⟩ := hv
    have hr' : Rep w (.sl sz' rows') x S := hr
    split at hs
    · simp only [Option.some.injEq, Prod.mk.injEq] at hs
      obtain ⟨rfl, rfl, rfl, rfl, rfl⟩ := hs
      exact ⟨src_of_rep hr' (fun _ us S' hr' _ => by rw [flat_S hq hr']; simp) (by simp), by simp⟩
    · simp only [Option.some.injEq, Prod.mk.injEq] at hs
      obtain ⟨rfl, rfl, rfl, rfl, rfl⟩ := hs
      exact ⟨src_of_rep hr' (by simp) (fun _ => hM), by simp⟩
  · simp only [Option.some.injEq, Prod.mk.injEq] at hs
    obtain ⟨rfl, -, rfl, rfl, rfl⟩ := hs
    obtain ⟨b, rfl⟩ := hv
    exact ⟨⟨by simp, b, 0, rfl, [], [], .nil, fun h => absurd rfl h, by simp, by simp⟩, by simp⟩
  · cases hs

theorem run_append_none (t ty e : TypeId) (i : TypeInfo) (ht : P.underlying t = some (.slice e)) (hi : P.info? e = some i) (base base2 : Option Addr) (n cap c2 : Nat) (h : n ≤ cap) :
    (Builtin.append_ #[t, t] ty #[.slice base n cap, .slice base2 0 c2]).run P w = .ok (.slice base n cap) w := by
  have hf : (Builtin.firstCells i.size 0 (.slice base2 0 c2)).run P w = .ok #[] w := by
    cases base2 with
    | none => simp [Builtin.firstCells]
    | some b => simp [Builtin.firstCells, loadCells, loadCellsFrom]
  cases base with
  | none => simp [Builtin.append_, run_underlying ht, sizeOf, typeInfo, hi, Builtin.lenOf, h, hf]
  | some b => simp [Builtin.append_, run_underlying ht, sizeOf, typeInfo, hi, Builtin.lenOf, h, hf, storeCells]

theorem grownCap_ge (w : World) (need old : Nat) (e : TypeId) : need ≤ grownCap w need old e := by
  simp only [grownCap, Question.cut]
  omega

/-- append of at least one element to a slice without room of its own: new memory. -/
theorem app_grow (h : SR B N st β φ a w) {t e ty : TypeId} {i : TypeInfo} {z : Value} (hte : P.underlying t = some (.slice e)) (hi : P.info? e = some i) (hz : i.zero = some z) (hzs : z.cells.size = i.size)
    {base1 : Option Addr} {cap1 : Nat} {rows1 rows2 : List (List D)} {S1 : List Nat} {olds : List Value} (hw1 : ∀ r ∈ rows1, r.length = i.size) (hr1 : RepL w rows1.flatten olds S1)
    (hb1 : rows1 ≠ [] → ∃ b off, base1 = some ⟨b, off, none⟩ ∧ ∀ (j : Nat) (u : Value), olds[j]? = some u → w.cell? ⟨b, off + j, none⟩ = some u)
    (hnil : base1 = none → cap1 = 0)
    {ks1 ks2 : List Nat} {sep1 sep2 : Bool} (hks : ∀ o ∈ ks1 ++ ks2, o < st.next)
    (hS1 : (sep1 = true → S1.Nodup ∧ ∀ x ∈ S1, ∃ o ∈ ks1, x ∈ φ o) ∧ (sep1 = false → ∀ x ∈ S1, ¬ ∃ o, x ∈ φ o)) (hdis : ∀ o ∈ ks1, o ∉ ks2)
    {v2 : Value} (src : Src w (fun b => ∃ o, b ∈ φ o) φ i.size rows2 sep2 ks2 v2) (hne : rows2 ≠ []) (hg : cap1 < rows1.length + rows2.length)
    (hby : (rows1.length + rows2.length) * i.bytes ≤ 140737488355328) (h63 : rows1.length + rows2.length ≤ 9223372036854775807) :
    ResM P B N st ((killAll st (ks1 ++ ks2)).addObj (.vec i.size (sep1 && sep2) (rows1 ++ rows2))) β φ a w (some (.one (.own st.next))) (Builtin.append_ #[t, t] ty #[.slice base1 rows1.length cap1, v2]) := by
  obtain ⟨hw2, base2, cap2, rfl, S2, us, hr2, hb2, hs2, hl2⟩ := src
  obtain ⟨b2, o2, rfl, hc2⟩ := hb2 hne
  have ho1 : olds.length = rows1.length * i.size := by rw [hr1.length, flatten_length hw1]
  have ho2 : us.length = rows2.length * i.size := by rw [hr2.length, flatten_length hw2]
  have hm : 0 < rows2.length := List.length_pos_iff.2 hne
  let need := rows1.length + rows2.length
  let cap' := grownCap w need cap1 e
  have hcap' : need ≤ cap' := grownCap_ge w need cap1 e
  let cells := olds.toArray ++ us.toArray ++ Builtin.zeroCells z.cells (cap' - need)
  have hcs : cells.size = cap' * i.size := by
    show (olds.toArray ++ us.toArray ++ Builtin.zeroCells z.cells (cap' - need)).size = _
    simp only [Array.size_append, List.size_toArray, size_zeroCells, hzs, ho1, ho2]
    rw [← Nat.add_mul, ← Nat.add_mul]
    congr 1
    show need + (cap' - need) = cap'
    omega
  have hnews : ∀ (j : Nat) (v : Value), us[j]? = some v → w.cell? ((⟨b2, o2, none⟩ : Addr).add j) = some v := fun j v hj => by rw [Addr.add_lit]; exact hc2 j v hj
  have hrun : (Builtin.append_ #[t, t] ty #[.slice base1 rows1.length cap1, .slice (some ⟨b2, o2, none⟩) rows2.length cap2]).run P w = .ok (.slice (some ⟨w.heap.size, 0, none⟩) need cap') (w.drew.alloc (.cells cells e)) := by
    cases hbase : base1 with
    | none =>
      have h0 : rows1 = [] := Classical.byContradiction fun hne' => by
        obtain ⟨b, off, hb, _⟩ := hb1 hne'
        rw [hbase] at hb; cases hb
      have hc0 := hnil hbase
      subst h0
      have hol : olds = [] := List.eq_nil_of_length_eq_zero (by simpa using ho1)
      have hr := run_append_nil (P := P) w t ty e i z hte hi hz ⟨b2, o2, none⟩ rows2.length cap2 us ho2 hnews hm (by simp at h63; omega) (by simp at hby; omega)
      rw [hc0]
      show _ = Result.ok (Value.slice _ (0 + rows2.length) (grownCap w (0 + rows2.length) cap1 e)) (w.drew.alloc (.cells (olds.toArray ++ us.toArray ++ Builtin.zeroCells z.cells (grownCap w (0 + rows2.length) cap1 e - (0 + rows2.length))) e))
      rw [hc0, hol, Nat.zero_add]
      simpa using hr
    | some b1 =>
      have hold : ∀ (j : Nat) (v : Value), olds[j]? = some v → w.cell? (b1.add j) = some v := fun j v hj => by
        by_cases h0 : rows1 = []
        · subst h0
          have hol : olds = [] := List.eq_nil_of_length_eq_zero (by simpa using ho1)
          subst hol
          simp at hj
        · obtain ⟨b, off, hb, hc⟩ := hb1 h0
          rw [hbase] at hb
          cases hb
          rw [Addr.add_lit]
          exact hc j v hj
      exact run_append_grow (P := P) w t ty e i z hte hi hz b1 rows1.length cap1 olds ho1 hold ⟨b2, o2, none⟩ rows2.length cap2 us ho2 hnews hg (by omega) (growslice_fits hg hby)
  have hlt1 := hr1.lt
  have hlt2 := hr2.lt
  have hrep : RepL (w.drew.alloc (.cells cells e)) (rows1 ++ rows2).flatten (cells.toList.take ((rows1 ++ rows2).length * i.size)) (S1 ++ S2) := by
    have e1 : cells.toList.take ((rows1 ++ rows2).length * i.size) = olds ++ us := by
      show (olds.toArray ++ us.toArray ++ Builtin.zeroCells z.cells (cap' - need)).toList.take _ = _
      simp only [Array.toList_append, List.length_append, Nat.add_mul]
      rw [List.take_append_of_le_length (by simp [ho1, ho2]), List.take_of_length_le (by simp [ho1, ho2])]
    rw [e1, List.flatten_append]
    have hs : w.heap.size ≤ (w.drew.alloc (.cells cells e)).heap.size := by simp
    exact (hr1.frm hs (fun x hx => heap_alloc_old w.drew _ (hlt1 x hx))).append (hr2.frm hs (fun x hx => heap_alloc_old w.drew _ (hlt2 x hx)))
  have hdisS : sep1 = true → sep2 = true → ∀ x ∈ S1, ∀ y ∈ S2, x ≠ y := fun a1 a2 x hx y hy exy => by
    subst exy
    obtain ⟨o1, k1, p1⟩ := (hS1.1 a1).2 x hx
    obtain ⟨o2, k2, p2⟩ := (hs2 a2).2 x hy
    exact h.disj o1 o2 (fun e => hdis o1 k1 (e ▸ k2)) x p1 p2
  have hin : ∀ x ∈ S1 ++ S2, ∀ o, x ∈ φ o → o ∈ ks1 ++ ks2 := fun x hx o ho => by
    rcases List.mem_append.1 hx with hx | hx
    · cases h1 : sep1 with
      | true =>
        obtain ⟨o1, k1, p1⟩ := (hS1.1 h1).2 x hx
        exact List.mem_append_left _ (Classical.byContradiction fun hn => h.disj o1 o (fun e => hn (e ▸ k1)) x p1 ho)
      | false => exact absurd ⟨o, ho⟩ (hS1.2 h1 x hx)
    · cases h2 : sep2 with
      | true =>
        obtain ⟨o1, k1, p1⟩ := (hs2 h2).2 x hx
        exact List.mem_append_right _ (Classical.byContradiction fun hn => h.disj o1 o (fun e => hn (e ▸ k1)) x p1 ho)
      | false => exact absurd ⟨o, ho⟩ (hl2 h2 x hx)
  obtain ⟨β', φ', le, sr, hp⟩ := h.newVec (ks := ks1 ++ ks2) (w' := w.drew.alloc (.cells cells e)) hks (((Frm.refl w _).drew).alloc _) (sz := i.size) (cap := cap') (b := w.heap.size) (sep := sep1 && sep2)
    (rows := rows1 ++ rows2) (S := S1 ++ S2) (E := if sep1 && sep2 then S1 ++ S2 else []) (T := e) (vs := cells)
    (fun r hr => (List.mem_append.1 hr).elim (hw1 r) (hw2 r)) (by rw [List.length_append]; exact hcap') (heap_alloc_new w.drew _) hcs hrep
    (fun x hx => by
      cases hx with
      | head => simp
      | tail _ hx =>
        cases hsep : (sep1 && sep2) with
        | false => rw [hsep] at hx; cases hx
        | true =>
          rw [hsep] at hx
          simp only [if_true] at hx
          simp only [Bool.and_eq_true] at hsep
          rcases List.mem_append.1 hx with hx | hx
          · obtain ⟨o1, k1, p1⟩ := (hS1.1 hsep.1).2 x hx
            exact ⟨by have := hlt1 x hx; simp; omega, .inr ⟨o1, List.mem_append_left _ k1, p1⟩⟩
          · obtain ⟨o1, k1, p1⟩ := (hs2 hsep.2).2 x hx
            exact ⟨by have := hlt2 x hx; simp; omega, .inr ⟨o1, List.mem_append_right _ k1, p1⟩⟩)
    (by
      cases hsep : (sep1 && sep2) with
      | false => simp
      | true =>
        simp only [Bool.and_eq_true] at hsep
        simp only [if_true]
        refine List.nodup_cons.2 ⟨fun hx => ?_, List.nodup_append.2 ⟨(hS1.1 hsep.1).1, (hs2 hsep.2).1, hdisS hsep.1 hsep.2⟩⟩
        rcases List.mem_append.1 hx with hx | hx
        · have := hlt1 _ hx; omega
        · have := hlt2 _ hx; omega)
    (by
      cases hsep : (sep1 && sep2) with
      | false =>
        simp only [Bool.false_eq_true, if_false]
        intro x hx
        refine ⟨?_, hin x hx⟩
        have : x < w.heap.size := (List.mem_append.1 hx).elim (hlt1 x) (hlt2 x)
        simp
        omega
      | true =>
        simp only [if_true]
        simp only [Bool.and_eq_true] at hsep
        exact ⟨List.nodup_append.2 ⟨(hS1.1 hsep.1).1, (hs2 hsep.2).1, hdisS hsep.1 hsep.2⟩, fun x hx => hx⟩)
  rw [List.length_append] at hp
  exact ⟨β', φ', _, le, sr, by show (killAll st (ks1 ++ ks2)).env = _; rw [killAll_env], _, _, rfl, hrun, hp⟩

/-- append to an owned vector with memory: in place, or to new memory. -/
theorem app_own (h : SR B N st β φ a w) {t e ty : TypeId} {i : TypeInfo} {z : Value} (hte : P.underlying t = some (.slice e)) (hi : P.info? e = some i) (hz : i.zero = some z) (hzs : z.cells.size = i.size)
    {o : Nat} {sep1 : Bool} {rows1 rows2 : List (List D)} (eo : st.obj o = .vec i.size sep1 rows1) {ks2 : List Nat} {sep2 : Bool} (hks : ∀ o ∈ ks2, o < st.next) (hdis : o ∉ ks2)
    {v2 : Value} (src : Src w (fun b => ∃ o, b ∈ φ o) φ i.size rows2 sep2 ks2 v2)
    (hby : (rows1.length + rows2.length) * i.bytes ≤ 140737488355328) (h63 : rows1.length + rows2.length ≤ 9223372036854775807) :
    ResM P B N st ((killAll st (o :: ks2)).addObj (.vec i.size (sep1 && sep2) (rows1 ++ rows2))) β φ a w (some (.one (.own st.next))) (Builtin.append_ #[t, t] ty #[.slice (β o).base rows1.length (β o).cap, v2]) := by
  have hon : o < st.next := lt_next h (by rw [eo]; simp)
  have hks' : ∀ k ∈ o :: ks2, k < st.next := fun k hk => by
    cases hk with
    | head => exact hon
    | tail _ hk => exact hks k hk
  have ho := h.objs o
  unfold ObjRel at ho
  rw [show (st.ctx w β φ).ob o = _ from eo] at ho
  obtain ⟨hw1, hcap, ho⟩ := ho
  have hcap' : rows1.length ≤ (β o).cap := hcap
  rcases ho with ⟨hφ, h0⟩ | ⟨b, T, S1, E, vs, hb, hheap, hvs, hrep, hφ, hS⟩
  · have h0' : (β o).cap = 0 := h0
    have hr1 : rows1 = [] := List.eq_nil_of_length_eq_zero (by omega)
    by_cases hne : rows2 = []
    · subst hr1
      subst hne
      obtain ⟨_, base2, cap2, rfl, _⟩ := src
      obtain ⟨β', φ', le, sr, hp⟩ := h.newVec0 hks' i.size (sep1 && sep2) (β o).base
      refine ⟨β', φ', w, le, sr, by show (killAll st (o :: ks2)).env = _; rw [killAll_env], _, _, rfl, run_append_none t ty e i hte hi _ _ _ _ _ (by simp), ?_⟩
      rw [h0']
      exact hp
    · subst hr1
      have hn : (β o).base = none → (β o).cap = 0 := fun _ => h0'
      exact app_grow (ks1 := [o]) (ks2 := ks2) (sep1 := sep1) h hte hi hz hzs (rows1 := []) (olds := []) (S1 := []) (by simp) .nil (fun hc => absurd rfl hc) hn (by simpa using hks') ⟨by simp, by simp⟩ (by simpa using hdis) src hne
        (by have := List.length_pos_iff.2 hne; simp; omega) hby h63
  · have hb' : (β o).base = some ⟨b, 0, none⟩ := hb
    have hheap' : w.heap[b]? = some (.cells vs T (0, 0)) := hheap
    have hvs' : vs.size = (β o).cap * i.size := hvs
    have hrep' : RepL w rows1.flatten (vs.toList.take (rows1.length * i.size)) S1 := hrep
    have hbφ : b ∈ φ o := by rw [hφ]; simp
    have hS1 : (sep1 = true → S1.Nodup ∧ ∀ x ∈ S1, x ∈ φ o) ∧ (sep1 = false → ∀ x ∈ S1, ¬ ∃ o, x ∈ φ o) := by
      cases sep1 with
      | true => exact ⟨fun _ => ⟨hS.1, fun x hx => by rw [hφ]; exact List.mem_cons_of_mem _ (hS.2 x hx)⟩, by simp⟩
      | false => exact ⟨by simp, fun _ => hS⟩
    have hbS1 : b ∉ S1 := fun hx => by
      cases hsep : sep1 with
      | true =>
        subst hsep
        have hnd := h.nodup o
        rw [hφ] at hnd
        exact (List.nodup_cons.1 hnd).1 (hS.2 b hx)
      | false => exact hS1.2 hsep b hx ⟨o, hbφ⟩
    by_cases hroom : rows1.length + rows2.length ≤ (β o).cap
    · obtain ⟨hw2, base2, cap2, rfl, S2, us, hr2, hb2, hs2, hl2⟩ := src
      have ho2 : us.length = rows2.length * i.size := by rw [hr2.length, flatten_length hw2]
      have hbS2 : b ∉ S2 := fun hx => by
        cases hsep : sep2 with
        | true =>
          obtain ⟨o2, k2, p2⟩ := (hs2 hsep).2 b hx
          exact h.disj o o2 (fun e => hdis (e ▸ k2)) b hbφ p2
        | false => exact hl2 hsep b hx ⟨o, hbφ⟩
      have hfit : rows1.length * i.size + us.length ≤ vs.size := by
        rw [ho2, hvs', ← Nat.add_mul]
        exact Nat.mul_le_mul_right _ hroom
      let cells := splice vs.toList (rows1.length * i.size) us
      have hcl : cells.length = (β o).cap * i.size := by
        show (splice vs.toList (rows1.length * i.size) us).length = _
        rw [splice_length (by simpa using hfit), Array.length_toList, hvs']
      have hrun : (Builtin.append_ #[t, t] ty #[.slice (β o).base rows1.length (β o).cap, .slice base2 rows2.length cap2]).run P w = .ok (.slice (some ⟨b, 0, none⟩) (rows1.length + rows2.length) (β o).cap) (w.setRow b cells.toArray) := by
        by_cases hne : rows2 = []
        · subst hne
          have hu : us = [] := List.eq_nil_of_length_eq_zero (by simpa using ho2)
          have hc : cells = vs.toList := by
            show splice vs.toList (rows1.length * i.size) us = _
            rw [hu]
            simp [splice]
          rw [hc, hb', show vs.toList.toArray = vs from by simp, setRow_self w b vs T (0, 0) hheap']
          exact run_append_none t ty e i hte hi _ _ _ _ _ (by simpa using hroom)
        · obtain ⟨b2, o2, rfl, hc2⟩ := hb2 hne
          have hone : ∀ u ∈ us, u.oneCell' = true := hr2.one
          rw [hb']
          have hnews : ∀ (j : Nat) (v : Value), us[j]? = some v → w.cell? ((⟨b2, o2, none⟩ : Addr).add j) = some v := fun j v hj => by rw [Addr.add_lit]; exact hc2 j v hj
          have hf := run_firstCells_some (P := P) w i.size rows2.length ⟨b2, o2, none⟩ rows2.length cap2 us ho2 hnews
          have hst := run_storeCells_at P b (rows1.length * i.size) T us 0 vs w hheap' (by simpa using hfit) hone
          simp only [Nat.add_zero] at hst
          have hc : cells = vs.toList.take (rows1.length * i.size) ++ (us ++ vs.toList.drop (rows1.length * i.size + us.length)) := by
            show splice _ _ _ = _
            simp [splice]
          rw [hc]
          simp [Builtin.append_, run_underlying hte, sizeOf, typeInfo, hi, Builtin.lenOf, hroom, hf, Addr.add_lit, hst]
      have hk : ∀ x, x ≠ b → (w.setRow b cells.toArray).heap[x]? = w.heap[x]? := fun x hx => setRow_other _ _ _ _ hx
      have hsz0 : w.heap.size ≤ (w.setRow b cells.toArray).heap.size := by simp
      have hdisS : sep1 = true → sep2 = true → ∀ x ∈ S1, ∀ y ∈ S2, x ≠ y := fun a1 a2 x hx y hy exy => by
        subst exy
        obtain ⟨o2, k2, p2⟩ := (hs2 a2).2 x hy
        exact h.disj o o2 (fun e => hdis (e ▸ k2)) x ((hS1.1 a1).2 x hx) p2
      have hin : ∀ x ∈ S1 ++ S2, ∀ o', x ∈ φ o' → o' ∈ o :: ks2 := fun x hx o' ho' => by
        rcases List.mem_append.1 hx with hx | hx
        · cases h1 : sep1 with
          | true => exact Classical.byContradiction fun hn => h.disj o o' (fun e => hn (e ▸ List.mem_cons_self ..)) x ((hS1.1 h1).2 x hx) ho'
          | false => exact absurd ⟨o', ho'⟩ (hS1.2 h1 x hx)
        · cases h2 : sep2 with
          | true =>
            obtain ⟨o1, k1, p1⟩ := (hs2 h2).2 x hx
            exact List.mem_cons_of_mem _ (Classical.byContradiction fun hn => h.disj o1 o' (fun e => hn (e ▸ k1)) x p1 ho')
          | false => exact absurd ⟨o', ho'⟩ (hl2 h2 x hx)
      obtain ⟨β', φ', le, sr, hp⟩ := h.newVec (ks := o :: ks2) (w' := w.setRow b cells.toArray) hks' ((Frm.refl w _).setRow b (fun _ => ⟨o, List.mem_cons_self .., hbφ⟩) _) (sz := i.size) (cap := (β o).cap) (b := b) (sep := sep1 && sep2)
        (rows := rows1 ++ rows2) (S := S1 ++ S2) (E := if sep1 && sep2 then S1 ++ S2 else []) (T := T) (vs := cells.toArray)
        (fun r hr => (List.mem_append.1 hr).elim (hw1 r) (hw2 r)) (by rw [List.length_append]; exact hroom) (setRow_heap w b vs _ T (0, 0) hheap') (by simpa using hcl)
        (by
          have e1 : cells.toArray.toList.take ((rows1 ++ rows2).length * i.size) = vs.toList.take (rows1.length * i.size) ++ us := by
            show (splice vs.toList (rows1.length * i.size) us).take _ = _
            unfold splice
            have hl : (vs.toList.take (rows1.length * i.size) ++ us).length = (rows1 ++ rows2).length * i.size := by
              have h1 : (vs.toList.take (rows1.length * i.size)).length = rows1.length * i.size := by
                rw [List.length_take]
                have : vs.toList.length = vs.size := Array.length_toList
                omega
              rw [List.length_append, h1, ho2, List.length_append, Nat.add_mul]
            rw [← hl, List.take_append_of_le_length (Nat.le_refl _), List.take_length]
          rw [e1, List.flatten_append]
          exact (hrep'.frm hsz0 (fun x hx => hk x (fun e => hbS1 (e ▸ hx)))).append (hr2.frm hsz0 (fun x hx => hk x (fun e => hbS2 (e ▸ hx)))))
        (fun x hx => by
          cases hx with
          | head => exact ⟨by simpa using lt_of_heap hheap', .inr ⟨o, List.mem_cons_self .., hbφ⟩⟩
          | tail _ hx =>
            cases hsep : (sep1 && sep2) with
            | false => rw [hsep] at hx; cases hx
            | true =>
              rw [hsep] at hx
              simp only [if_true] at hx
              simp only [Bool.and_eq_true] at hsep
              rcases List.mem_append.1 hx with hx | hx
              · exact ⟨by simpa using hrep'.lt x hx, .inr ⟨o, List.mem_cons_self .., (hS1.1 hsep.1).2 x hx⟩⟩
              · obtain ⟨o1, k1, p1⟩ := (hs2 hsep.2).2 x hx
                exact ⟨by simpa using hr2.lt x hx, .inr ⟨o1, List.mem_cons_of_mem _ k1, p1⟩⟩)
        (by
          cases hsep : (sep1 && sep2) with
          | false => simp
          | true =>
            simp only [Bool.and_eq_true] at hsep
            simp only [if_true]
            exact List.nodup_cons.2 ⟨fun hx => (List.mem_append.1 hx).elim hbS1 hbS2, List.nodup_append.2 ⟨(hS1.1 hsep.1).1, (hs2 hsep.2).1, hdisS hsep.1 hsep.2⟩⟩)
        (by
          cases hsep : (sep1 && sep2) with
          | false =>
            simp only [Bool.false_eq_true, if_false]
            intro x hx
            refine ⟨?_, hin x hx⟩
            have : x ≠ b := fun e => (List.mem_append.1 hx).elim (fun hx => hbS1 (e ▸ hx)) (fun hx => hbS2 (e ▸ hx))
            simpa using this
          | true =>
            simp only [if_true]
            simp only [Bool.and_eq_true] at hsep
            exact ⟨List.nodup_append.2 ⟨(hS1.1 hsep.1).1, (hs2 hsep.2).1, hdisS hsep.1 hsep.2⟩, fun x hx => hx⟩)
      rw [List.length_append] at hp
      exact ⟨β', φ', _, le, sr, by show (killAll st (o :: ks2)).env = _; rw [killAll_env], _, _, rfl, hrun, hp⟩
    · have hne : rows2 ≠ [] := fun e => by subst e; simp at hroom; omega
      refine app_grow (ks1 := [o]) (ks2 := ks2) (sep1 := sep1) h hte hi hz hzs (olds := vs.toList.take (rows1.length * i.size)) hw1 hrep' (fun _ => ⟨b, 0, hb', fun j u hj => ?_⟩) (fun hn => ?_) (by simpa using hks')
        ⟨fun hs => ⟨(hS1.1 hs).1, fun x hx => ⟨o, by simp, (hS1.1 hs).2 x hx⟩⟩, hS1.2⟩ (by simpa using hdis) src hne (by omega) hby h63
      · rw [Nat.zero_add]
        refine (cell_of_heap hheap').trans ?_
        rw [← Array.getElem?_toList]
        rw [List.getElem?_take] at hj
        split at hj
        · exact hj
        · cases hj
      · rw [hb'] at hn; cases hn

theorem appendS_sound (h : SR B N st β φ a w) {t ty : TypeId} {u v : AV} {q : Prop} {r : Option AV} {p1 p2 : Value} (hs : appendS P st t u v = some (q, r, st')) (hq : q)
    (hu : AVRel (st.ctx w β φ) u p1) (hv : AVRel (st.ctx w β φ) v p2) : ResM P B N st st' β φ a w r (Builtin.append_ #[t, t] ty #[p1, p2]) := by
  unfold appendS at hs
  split at hs
  · rename_i e s y ht
    split at hs
    · rename_i zs q1 sz2 rows2 sep2 ks2 hz hsrc
      obtain ⟨hte, i, hi, hsz, hyy⟩ := te_spec ht
      obtain ⟨i', z, hi', hzv, _, hzs, _⟩ := tz_spec (w := w) hz
      rw [hi] at hi'
      cases hi'
      subst hsz
      subst hyy
      split at hs
      · rename_i o
        split at hs
        · rename_i sz1 sep1 rows1 eo
          simp only [Option.some.injEq, Prod.mk.injEq] at hs
          obtain ⟨rfl, rfl, rfl⟩ := hs
          obtain ⟨hq1, rfl, rfl, hs0, hzl, hdis, hby, h63⟩ := hq
          obtain ⟨src, hks⟩ := srcS_sound h hsrc hq1 rfl hv
          obtain ⟨hn, hp⟩ := hu
          rw [show (st.ctx w β φ).ob o = _ from eo] at hp
          simp only at hp
          subst hp
          exact app_own h hte hi hzv hzs eo hks hdis src hby h63
        · cases hs
      · simp only [Option.some.injEq, Prod.mk.injEq] at hs
        obtain ⟨rfl, rfl, rfl⟩ := hs
        obtain ⟨hq1, rfl, hs0, hzl, hby, h63⟩ := hq
        obtain ⟨src, hks⟩ := srcS_sound h hsrc hq1 rfl hv
        obtain ⟨b, rfl⟩ := hu
        by_cases hne : rows2 = []
        · subst hne
          obtain ⟨_, base2, cap2, rfl, _⟩ := src
          obtain ⟨β', φ', le, sr, hp⟩ := h.newVec0 hks i.size sep2 b
          exact ⟨β', φ', w, le, sr, by show (killAll st ks2).env = _; rw [killAll_env], _, _, rfl, run_append_none t ty e i hte hi _ _ _ _ _ (by simp), hp⟩
        · have := app_grow (ks1 := []) (ks2 := ks2) (sep1 := true) (cap1 := 0) (base1 := b) (rows1 := []) (olds := []) (S1 := []) (ty := ty) h hte hi hzv hzs (by simp) .nil (fun hc => absurd rfl hc) (fun _ => rfl) (by simpa using hks) ⟨by simp, by simp⟩ (by simp) src hne
            (by have := List.length_pos_iff.2 hne; simp; omega) (by simpa using hby) (by simpa using h63)
          simpa using this
      · cases hs
    · cases hs
  · cases hs
end
end Go.Abs
