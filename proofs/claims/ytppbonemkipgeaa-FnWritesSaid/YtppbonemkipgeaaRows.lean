/-
  No cell of these rows narrows 'for every input' (looked for: loops, veiled, ifaces, maps, wideKeys, modest, calm, conditions, laid).
  DERIVED. THE GIVEN ROWS OF THIS SEAT. 4 by the template 'for every input the law returns true; each argument reads behind the call as it read before'; 0 by the template 'total and deterministic' (their statements: YtppbonemkipgeaaTotals.lean).
  GIVEN WITH THE SEED: the statements are not yours to turn. If you find one false, say at which input.
  Laid BY PROGRAM, IN A SANDBOX (cutbox-rows.mjs): the forced cells as the released guide's own fill.sh prints them over the translation fca731b206ea0689… (all of the seat's roots in one cut). By AI agents, Wed Nov 11 2026. No macro, syntax, notation, axiom, sorry.
-/
import Derived.Test.YtppbonemkipgeaaChecked
import GoSem.Claim
import GoSem.ClaimJoined
import GoSem.ClaimMapViews
import Derived.JoinedTies
import Derived.KernelRfl
namespace Go.Proofs.Ytppbonemkipgeaa
/- THE CELL 'sum', in the pinned program and in every row, IS THE sha256 OF THE DUMP (.gsa) THAT YtppbonemkipgeaaProg.lean LOADS. Nothing in Lean hashes anything: it is a label: what it is worth is what the hold of that sum in a sandbox is worth. -/
noncomputable def Try.pinned : Pinned := { name := "ytppbonemkipgeaa", sum := "fca731b206ea0689e33a0209575b322c7a4e239dd8177f1a1f37f900023da12b", checked := Try.checked }
namespace Rows
def none {H : Type} : Left H := { results := [], args := [] }

/-- 'laws.FnExactTouched': WHATEVER THE INPUT: true; the input reads as it did. -/
def fnExactTouchedSpec : ChangeSpec := { name := "fnExactTouched", fn := fun _ => fun
  | [d] => { results := [.lit (.bool true)], args := [d] }
  | _ => none }
def fnExactTouchedRow : OpenClaim := { program := "ytppbonemkipgeaa", sum := "fca731b206ea0689e33a0209575b322c7a4e239dd8177f1a1f37f900023da12b", func := "loop.example/g01538/laws.FnExactTouched", spec := "fnExactTouched", recurses := true, apart := false }
def FnExactTouchedSaid : Prop := fnExactTouchedRow.holds Try.pinned (OpenSpec.ofChange fnExactTouchedSpec)

/-- ITS FALSE NEIGHBOUR: 'it returns false'. Refute it at one input. -/
def fnExactTouchedWrong : ChangeSpec := { name := "fnExactTouched", fn := fun _ => fun
  | [d] => { results := [.lit (.bool false)], args := [d] }
  | _ => none }
def FnExactTouchedWrongFalsely : Prop := fnExactTouchedRow.holds Try.pinned (OpenSpec.ofChange fnExactTouchedWrong)

/-- 'laws.FnMaps': WHATEVER THE INPUT: true; the input reads as it did. -/
def fnMapsSpec : ChangeSpec := { name := "fnMaps", fn := fun _ => fun
  | [d] => { results := [.lit (.bool true)], args := [d] }
  | _ => none }
def fnMapsRow : OpenClaim := { program := "ytppbonemkipgeaa", sum := "fca731b206ea0689e33a0209575b322c7a4e239dd8177f1a1f37f900023da12b", func := "loop.example/g01538/laws.FnMaps", spec := "fnMaps", inPlace := ["slices.overlaps[loop.example/g01538/impl.KV]"], unfollowed := true, recurses := true, apart := false }
def FnMapsSaid : Prop := fnMapsRow.holds Try.pinned (OpenSpec.ofChange fnMapsSpec)

/-- ITS FALSE NEIGHBOUR: 'it returns false'. Refute it at one input. -/
def fnMapsWrong : ChangeSpec := { name := "fnMaps", fn := fun _ => fun
  | [d] => { results := [.lit (.bool false)], args := [d] }
  | _ => none }
def FnMapsWrongFalsely : Prop := fnMapsRow.holds Try.pinned (OpenSpec.ofChange fnMapsWrong)

/-- 'laws.FnCommands': WHATEVER THE INPUT: true; the input reads as it did. -/
def fnCommandsSpec : ChangeSpec := { name := "fnCommands", fn := fun _ => fun
  | [d] => { results := [.lit (.bool true)], args := [d] }
  | _ => none }
def fnCommandsRow : OpenClaim := { program := "ytppbonemkipgeaa", sum := "fca731b206ea0689e33a0209575b322c7a4e239dd8177f1a1f37f900023da12b", func := "loop.example/g01538/laws.FnCommands", spec := "fnCommands", inPlace := ["slices.overlaps[loop.example/g01538/impl.KV]"], unfollowed := true, recurses := true, apart := false }
def FnCommandsSaid : Prop := fnCommandsRow.holds Try.pinned (OpenSpec.ofChange fnCommandsSpec)

/-- ITS FALSE NEIGHBOUR: 'it returns false'. Refute it at one input. -/
def fnCommandsWrong : ChangeSpec := { name := "fnCommands", fn := fun _ => fun
  | [d] => { results := [.lit (.bool false)], args := [d] }
  | _ => none }
def FnCommandsWrongFalsely : Prop := fnCommandsRow.holds Try.pinned (OpenSpec.ofChange fnCommandsWrong)

/-- 'laws.FnWrites': WHATEVER THE INPUT: true; the input reads as it did. -/
def fnWritesSpec : ChangeSpec := { name := "fnWrites", fn := fun _ => fun
  | [d] => { results := [.lit (.bool true)], args := [d] }
  | _ => none }
def fnWritesRow : OpenClaim := { program := "ytppbonemkipgeaa", sum := "fca731b206ea0689e33a0209575b322c7a4e239dd8177f1a1f37f900023da12b", func := "loop.example/g01538/laws.FnWrites", spec := "fnWrites", inPlace := ["slices.overlaps[loop.example/g01538/impl.Write]", "slices.overlaps[loop.example/g01538/impl.KV]"], unfollowed := true, recurses := true, apart := false }
def FnWritesSaid : Prop := fnWritesRow.holds Try.pinned (OpenSpec.ofChange fnWritesSpec)

/-- ITS FALSE NEIGHBOUR: 'it returns false'. Refute it at one input. -/
def fnWritesWrong : ChangeSpec := { name := "fnWrites", fn := fun _ => fun
  | [d] => { results := [.lit (.bool false)], args := [d] }
  | _ => none }
def FnWritesWrongFalsely : Prop := fnWritesRow.holds Try.pinned (OpenSpec.ofChange fnWritesWrong)

/- THE SECOND FORM. 'bulk': how many values and letters a reading holds, each counted each time it is reached (what is shared counts as often as it is met; a slice's spare places count too). A statement '..UptoSaid' is the law's where the arguments, and the package variables that the reading takes, are together of bulk at most 1048576: NARROWER than '..Said'. Prove '..Said' where nothing that the law and all that it calls make is longer than what came in: it says more and counts as full. Else prove '..UptoSaid'. A law counts once. -/
mutual
def uptoBulk {H : Type} : DataW H → Nat
  | .lit (.string bytes) => bytes.length + 1
  | .lit _ => 1
  | .nil => 1
  | .ptr d => uptoBulk d + 1
  | .slice elems spare => uptoBulkAll elems + uptoBulkAll spare + 1
  | .agg parts => uptoBulkAll parts + 1
  | .iface _ d => uptoBulk d + 1
  | .map entries => uptoBulkEntries entries + 1
  | .held _ => 1
def uptoBulkAll {H : Type} : List (DataW H) → Nat
  | [] => 0
  | d :: r => uptoBulk d + uptoBulkAll r
def uptoBulkEntries {H : Type} : List (Lit × DataW H) → Nat
  | [] => 0
  | x :: r => uptoBulkEntry x + uptoBulkEntries r
def uptoBulkEntry {H : Type} : Lit × DataW H → Nat
  | (.string bytes, d) => bytes.length + uptoBulk d + 1
  | (_, d) => uptoBulk d + 1
 end
def uptoSmall : (H : Type) → List (DataW H) → Bool := fun _ ds => decide (uptoBulkAll ds ≤ 1048576)
def OpenSpec.upto (s : _root_.Go.ChangeSpec) : _root_.Go.OpenSpec := { _root_.Go.OpenSpec.ofChange s with cond := some uptoSmall }

/-- 'laws.FnExactTouched', WHERE WHAT IT READS IS OF BULK AT MOST 1048576: true; the input reads as it did. -/
def fnExactTouchedUptoRow : OpenClaim := { program := "ytppbonemkipgeaa", sum := "fca731b206ea0689e33a0209575b322c7a4e239dd8177f1a1f37f900023da12b", func := "loop.example/g01538/laws.FnExactTouched", spec := "fnExactTouched", recurses := true, apart := false, narrowed := true }
def FnExactTouchedUptoSaid : Prop := fnExactTouchedUptoRow.holds Try.pinned (OpenSpec.upto fnExactTouchedSpec)

/-- 'laws.FnMaps', WHERE WHAT IT READS IS OF BULK AT MOST 1048576: true; the input reads as it did. -/
def fnMapsUptoRow : OpenClaim := { program := "ytppbonemkipgeaa", sum := "fca731b206ea0689e33a0209575b322c7a4e239dd8177f1a1f37f900023da12b", func := "loop.example/g01538/laws.FnMaps", spec := "fnMaps", inPlace := ["slices.overlaps[loop.example/g01538/impl.KV]"], unfollowed := true, recurses := true, apart := false, narrowed := true }
def FnMapsUptoSaid : Prop := fnMapsUptoRow.holds Try.pinned (OpenSpec.upto fnMapsSpec)

/-- 'laws.FnCommands', WHERE WHAT IT READS IS OF BULK AT MOST 1048576: true; the input reads as it did. -/
def fnCommandsUptoRow : OpenClaim := { program := "ytppbonemkipgeaa", sum := "fca731b206ea0689e33a0209575b322c7a4e239dd8177f1a1f37f900023da12b", func := "loop.example/g01538/laws.FnCommands", spec := "fnCommands", inPlace := ["slices.overlaps[loop.example/g01538/impl.KV]"], unfollowed := true, recurses := true, apart := false, narrowed := true }
def FnCommandsUptoSaid : Prop := fnCommandsUptoRow.holds Try.pinned (OpenSpec.upto fnCommandsSpec)

/-- 'laws.FnWrites', WHERE WHAT IT READS IS OF BULK AT MOST 1048576: true; the input reads as it did. -/
def fnWritesUptoRow : OpenClaim := { program := "ytppbonemkipgeaa", sum := "fca731b206ea0689e33a0209575b322c7a4e239dd8177f1a1f37f900023da12b", func := "loop.example/g01538/laws.FnWrites", spec := "fnWrites", inPlace := ["slices.overlaps[loop.example/g01538/impl.Write]", "slices.overlaps[loop.example/g01538/impl.KV]"], unfollowed := true, recurses := true, apart := false, narrowed := true }
def FnWritesUptoSaid : Prop := fnWritesUptoRow.holds Try.pinned (OpenSpec.upto fnWritesSpec)

end Rows
end Go.Proofs.Ytppbonemkipgeaa
