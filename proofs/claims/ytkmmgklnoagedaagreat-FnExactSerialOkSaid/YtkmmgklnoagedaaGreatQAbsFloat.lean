import Derived.Test.YtkmmgklnoagedaaGreatQAbsQuiet
/- A region whose order is open: reads that may float past what makes new objects; what changes memory has one order. Own work. -/
namespace Go.Abs
set_option linter.unusedVariables false
set_option linter.unusedSimpArgs false
def lit0 : Op -> Bool
 | .buildSlice _ 0 ⟨[]⟩ => true
 | _ => false
def readV (o : Oper) : Bool := o.guard.isNone && o.dst.isSome && match o.op with
 | .move _ | .assign _ | .build _ _ | .load _ _ | .unOp _ _ _ | .fieldAddr _ _ _ | .field _ _ _ | .indexAddr _ _ _ | .index _ _ _ | .extract _ _ | .binOp _ _ _ _ _ => true
 | op => lit0 op
def opR (P : Program) (st : St) (o : Oper) : Out := match lit0 o.op with
 | true => match o.op with
  | .buildSlice t _ _ => match te P t with
   | some (e, _, _) => match tz P e with
    | some _ => some (True, some (.one .emp), st)
    | none => none
   | none => none
  | _ => none
 | false => opS P st o
def plainV (o : Oper) : Bool := o.guard.isNone && match o.op with
 | .select _ _ => false
 | _ => true
def Same (u v : AV) : Prop := u = v
def sameV (P : Program) (st : St) (x : Oper) (v : AV) : Prop := match opR P st x with
 | some (q, some u, _) => q /\ Same u v
 | _ => False
def keptV (P : Program) (st : St) : Option Oper -> Prop
 | some x => match x.dst with
  | some d => match find st.env d with
   | some v => sameV P st x v
   | none => False
  | none => False
 | none => False
def chk (P : Program) (ops : Array Oper) : List Nat -> St -> Prop
 | [], _ => True
 | i :: cs, st => keptV P st (ops[i]?) /\ chk P ops cs st
def regF (P : Program) (ops : Array Oper) : List (Nat × List Nat) -> St -> (St -> Prop) -> Prop
 | [], st, K => K st
 | (i, cs) :: r, st, K => match ops[i]? with
  | none => False
  | some o => match readV o with
   | true => match opR P st o with
    | some (q, some v, _) => q /\ regF P ops r (st.putO o.dst (some v)) K
    | _ => False
   | false => opQ P st o fun v s => chk P ops cs (s.putO o.dst v) /\ regF P ops r (s.putO o.dst v) K
def linOk (ops : Array Oper) : List Nat -> List (Nat × List Nat) -> Bool
 | _, [] => true
 | pre, (i, _) :: r => (match ops[i]? with
  | some o => o.after.all fun e => !Region.binds .any e || pre.contains e.on
  | none => false) && linOk ops (i :: pre) r
def chainOk (ops : Array Oper) (al : List Nat) : List (Nat × List Nat) -> Bool
 | [] => true
 | (i, _) :: r => (match ops[i]? with
  | some o => readV o || r.all fun y => al.contains y.1 || match ops[y.1]? with
   | some p => p.after.any fun e => Region.binds .any e && (e.on == i || ((r.map (·.1)).contains e.on && !al.contains e.on))
   | none => false
  | none => false) && chainOk ops al r
def ancB (ops : Array Oper) : Nat -> Nat -> Nat -> Bool
 | 0, _, _ => false
 | n + 1, i, j => match ops[j]? with
  | some o => o.after.any fun e => Region.binds .any e && (e.on == i || ancB ops n i e.on)
  | none => false
def sixOk (ops : Array Oper) : List Nat -> List (Nat × List Nat) -> Bool
 | _, [] => true
 | pre, (i, cs) :: r => (match ops[i]? with
  | some o => readV o || pre.all fun k => cs.contains k || ancB ops ops.size k i || (match ops[k]? with | some p => !readV p | none => true)
  | none => false) && sixOk ops (i :: pre) r
def ssaOk (ops : Array Oper) : Bool :=
 ops.toList.zipIdx.all fun (o, i) => plainV o && ops.toList.zipIdx.all fun (p, j) => match p.dst with
  | some d => !((Oper.looks ops o).contains d) || o.after.any fun e => Region.binds .any e && e.on == j
  | none => true
section
variable {P : Program} {B : Base} {N : Nat} {st st' : St} {β : Nat -> Info} {φ : Nat -> List Nat} {a a' : Act} {w w' : World}
def Near (D : Nat -> Prop) (a a' : Act) : Prop := a.tmps.size = a'.tmps.size /\ a.defers = a'.defers /\ ∀ t, ¬ D t -> a.tmps[t]? = a'.tmps[t]?
theorem Near.refl (D : Nat -> Prop) (a : Act) : Near D a a := ⟨rfl, rfl, fun _ _ => rfl⟩
theorem Near.mono {D D' : Nat -> Prop} (h : Near D a a') (hd : ∀ t, D t -> D' t) : Near D' a a' := ⟨h.1, h.2.1, fun t ht => h.2.2 t fun h' => ht (hd t h')⟩
theorem Near.put {D : Nat -> Prop} (h : Near D a a') (d : Option Tmp) (x : Value) : Near D (a.put d x) (a'.put d x) := by
 obtain ⟨h1, h2, h3⟩ := h
 cases d with
 | none => exact ⟨h1, h2, h3⟩
 | some d =>
  refine ⟨by simp [Act.put, h1], h2, fun t ht => ?_⟩
  show (a.tmps.setIfInBounds d x)[t]? = (a'.tmps.setIfInBounds d x)[t]?
  by_cases e : d = t
  ·subst e
   rw [Array.getElem?_setIfInBounds_self, Array.getElem?_setIfInBounds_self, h1]
  ·rw [Array.getElem?_setIfInBounds_ne e, Array.getElem?_setIfInBounds_ne e]
   exact h3 t ht
theorem Near.eval {D : Nat -> Prop} (h : Near D a a') {x : Operand} (hx : ∀ t, x = .tmp t -> ¬ D t) : a.eval x = a'.eval x := by
 cases x with
 | tmp t =>
  show a.tmps.getD t undef = a'.tmps.getD t undef
  rw [Array.getD_eq_getD_getElem?, Array.getD_eq_getD_getElem?, h.2.2 t (hx t rfl)]
 | const v => rfl
 | func f => rfl
 | global g => rfl
end
end Go.Abs
