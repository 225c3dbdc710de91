import Derived.Test.YtkmmgklnoagedaaGreatQAbsLit
/- A region whose order is open: where all calls have one order, and all else is of temporaries alone, the order of the text serves. The calls may write whatever. Own work. -/
namespace Go.Abs
set_option linter.unusedVariables false
set_option linter.unusedSimpArgs false
def quietV (o : Oper) : Bool := o.guard.isNone && o.dst.isSome && match o.op with
 | .move _ => true
 | .assign _ => true
 | .unOp _ _ _ => true
 | .extract _ _ => true
 | .field _ _ _ => true
 | .binOp _ _ _ (.const (.slice none 0 0)) _ => false
 | .binOp .. => true
 | _ => false
def okV (o : Oper) : Bool := quietV o || (callV o.op && o.guard.isNone && o.dst.isSome)
def quietN : List Oper -> Nat
 | [] => 0
 | o :: r => if okV o then quietN r + 1 else 0
def quietOk (ops : Array Oper) : Bool :=
 decide (2 <= ((ops.toList.take (quietN ops.toList)).filter fun o => callV o.op).length) && effOk ops && (decide (quietN ops.toList = ops.size) || seqOk ops (quietN ops.toList))
section
variable {P : Program} {B : Base} {N : Nat} {st st' : St} {β : Nat -> Info} {φ : Nat -> List Nat} {a : Act} {w w' : World}
def Al (s s' : St) : Prop := ∃ env, s' = { s with env := env } /\ ∀ t, find env t = find s.env t
theorem Al.refl (s : St) : Al s s := ⟨s.env, rfl, fun _ => rfl⟩
theorem Al.trans {a b c : St} (h : Al a b) (h' : Al b c) : Al a c := by
 obtain ⟨e, rfl, h1⟩ := h
 obtain ⟨e', rfl, h2⟩ := h'
 exact ⟨e', rfl, fun t => (h2 t).trans (h1 t)⟩
theorem Al.put {a b : St} (h : Al a b) (d : Nat) (v : AV) : Al (a.put d v) (b.put d v) := by
 obtain ⟨e, rfl, h1⟩ := h
 refine ⟨(d, v) :: e, rfl, fun t => ?_⟩
 show find ((d, v) :: e) t = find ((d, v) :: a.env) t
 simp only [find]
 rw [h1 t]
theorem Al.putO {a b : St} (h : Al a b) {d : Option Nat} (hd : d.isSome = true) (v : AV) : Al (a.putO d (some v)) (b.putO d (some v)) := by
 cases d with
 | none => cases hd
 | some d => exact h.put d v
def quietL : List Oper -> Nat -> Bool
 | [], n => decide (2 <= n)
 | o :: r, n => bif okV o then quietL r (bif callV o.op then n + 1 else n) else decide (2 <= n)
def chainL : List Oper -> Nat -> Bool
 | [], _ => false
 | o :: r, n => bif okV o then chainL r (bif callV o.op then n + 1 else n) else decide (n = 1) && litV o.op
end
end Go.Abs
