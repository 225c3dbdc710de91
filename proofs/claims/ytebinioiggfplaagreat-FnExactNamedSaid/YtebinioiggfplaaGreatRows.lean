/-
  No cell of these rows narrows 'for every input' (looked for: loops, veiled, ifaces, maps, wideKeys, modest, calm, conditions, laid).
  DERIVED. THE GIVEN ROWS OF THIS SEAT. 4 by the template 'for every input the law returns true; each argument reads behind the call as it read before'; 0 by the template 'total and deterministic' (their statements: YtebinioiggfplaaGreatTotals.lean).
  GIVEN WITH THE SEED: the statements are not yours to turn. If you find one false, say at which input.
  Laid BY PROGRAM, IN A SANDBOX (cutbox-rows.mjs): the forced cells as the released guide's own fill.sh prints them over the translation 202e64e5df384c97… (all of the seat's roots in one cut). By AI agents, Wed Nov 11 2026. No macro, syntax, notation, axiom, sorry.
-/
import Derived.Test.YtebinioiggfplaaGreatChecked
import GoSem.Claim
import GoSem.ClaimJoined
import GoSem.ClaimMapViews
import Derived.JoinedTies
import Derived.KernelRfl
namespace Go.Proofs.YtebinioiggfplaaGreat
/- THE CELL 'sum', in the pinned program and in every row, IS THE sha256 OF THE DUMP (.gsa) THAT YtebinioiggfplaaGreatProg.lean LOADS. Nothing in Lean hashes anything: it is a label: what it is worth is what the hold of that sum in a sandbox is worth. -/
noncomputable def Tryz.pinned : Pinned := { name := "ytebinioiggfplaagreat", sum := "202e64e5df384c97ab2587a98001b8a7ea1f7b5c1517e1ca5b477845288f2954", checked := Tryz.checked }
namespace Rows
def none {H : Type} : Left H := { results := [], args := [] }

/-- 'laws.FnExactStuck': WHATEVER THE INPUT: true; the input reads as it did. -/
def fnExactStuckSpec : ChangeSpec := { name := "fnExactStuck", fn := fun _ => fun
  | [d] => { results := [.lit (.bool true)], args := [d] }
  | _ => none }
def fnExactStuckRow : OpenClaim := { program := "ytebinioiggfplaagreat", sum := "202e64e5df384c97ab2587a98001b8a7ea1f7b5c1517e1ca5b477845288f2954", func := "loop.example/g01538/laws.FnExactStuck", spec := "fnExactStuck", unfollowed := true, recurses := true, apart := false }
def FnExactStuckSaid : Prop := fnExactStuckRow.holds Tryz.pinned (OpenSpec.ofChange fnExactStuckSpec)

/-- ITS FALSE NEIGHBOUR: 'it returns false'. Refute it at one input. -/
def fnExactStuckWrong : ChangeSpec := { name := "fnExactStuck", fn := fun _ => fun
  | [d] => { results := [.lit (.bool false)], args := [d] }
  | _ => none }
def FnExactStuckWrongFalsely : Prop := fnExactStuckRow.holds Tryz.pinned (OpenSpec.ofChange fnExactStuckWrong)

/-- 'laws.FnExactNamed': WHATEVER THE INPUT: true; the input reads as it did. -/
def fnExactNamedSpec : ChangeSpec := { name := "fnExactNamed", fn := fun _ => fun
  | [d] => { results := [.lit (.bool true)], args := [d] }
  | _ => none }
def fnExactNamedRow : OpenClaim := { program := "ytebinioiggfplaagreat", sum := "202e64e5df384c97ab2587a98001b8a7ea1f7b5c1517e1ca5b477845288f2954", func := "loop.example/g01538/laws.FnExactNamed", spec := "fnExactNamed", unfollowed := true, recurses := true, apart := false }
def FnExactNamedSaid : Prop := fnExactNamedRow.holds Tryz.pinned (OpenSpec.ofChange fnExactNamedSpec)

/-- ITS FALSE NEIGHBOUR: 'it returns false'. Refute it at one input. -/
def fnExactNamedWrong : ChangeSpec := { name := "fnExactNamed", fn := fun _ => fun
  | [d] => { results := [.lit (.bool false)], args := [d] }
  | _ => none }
def FnExactNamedWrongFalsely : Prop := fnExactNamedRow.holds Tryz.pinned (OpenSpec.ofChange fnExactNamedWrong)

/-- 'laws.FnExactGuarded': WHATEVER THE INPUT: true; the input reads as it did. -/
def fnExactGuardedSpec : ChangeSpec := { name := "fnExactGuarded", fn := fun _ => fun
  | [d] => { results := [.lit (.bool true)], args := [d] }
  | _ => none }
def fnExactGuardedRow : OpenClaim := { program := "ytebinioiggfplaagreat", sum := "202e64e5df384c97ab2587a98001b8a7ea1f7b5c1517e1ca5b477845288f2954", func := "loop.example/g01538/laws.FnExactGuarded", spec := "fnExactGuarded", unfollowed := true, recurses := true, apart := false }
def FnExactGuardedSaid : Prop := fnExactGuardedRow.holds Tryz.pinned (OpenSpec.ofChange fnExactGuardedSpec)

/-- ITS FALSE NEIGHBOUR: 'it returns false'. Refute it at one input. -/
def fnExactGuardedWrong : ChangeSpec := { name := "fnExactGuarded", fn := fun _ => fun
  | [d] => { results := [.lit (.bool false)], args := [d] }
  | _ => none }
def FnExactGuardedWrongFalsely : Prop := fnExactGuardedRow.holds Tryz.pinned (OpenSpec.ofChange fnExactGuardedWrong)

/-- 'laws.FnExactCollectors': WHATEVER THE INPUT: true; the input reads as it did. -/
def fnExactCollectorsSpec : ChangeSpec := { name := "fnExactCollectors", fn := fun _ => fun
  | [d1, d2] => { results := [.lit (.bool true)], args := [d1, d2] }
  | _ => none }
def fnExactCollectorsRow : OpenClaim := { program := "ytebinioiggfplaagreat", sum := "202e64e5df384c97ab2587a98001b8a7ea1f7b5c1517e1ca5b477845288f2954", func := "loop.example/g01538/laws.FnExactCollectors", spec := "fnExactCollectors", unfollowed := true, recurses := true, apart := false }
def FnExactCollectorsSaid : Prop := fnExactCollectorsRow.holds Tryz.pinned (OpenSpec.ofChange fnExactCollectorsSpec)

/-- ITS FALSE NEIGHBOUR: 'it returns false'. Refute it at one input. -/
def fnExactCollectorsWrong : ChangeSpec := { name := "fnExactCollectors", fn := fun _ => fun
  | [d1, d2] => { results := [.lit (.bool false)], args := [d1, d2] }
  | _ => none }
def FnExactCollectorsWrongFalsely : Prop := fnExactCollectorsRow.holds Tryz.pinned (OpenSpec.ofChange fnExactCollectorsWrong)

/- THE SECOND FORM. 'bulk': how many values and letters a reading holds, each counted each time it is reached (what is shared counts as often as it is met; a slice's spare places count too). A statement '..UptoSaid' is the law's where the arguments, and the package variables that the reading takes, are together of bulk at most 1048576: NARROWER than '..Said'. Prove '..Said' where nothing that the law and all that it calls make is longer than what came in: it says more and counts as full. Else prove '..UptoSaid'. A law counts once. -/
mutual
def uptoBulk {H : Type} : DataW H → Nat
  | .lit (.string bytes) => bytes.length + 1
  | .lit _ => 1
  | .nil => 1
  | .ptr d => uptoBulk d + 1
  | .slice elems spare => uptoBulkAll elems + uptoBulkAll spare + 1
  | .agg parts => uptoBulkAll parts + 1
  | .iface _ d => uptoBulk d + 1
  | .map entries => uptoBulkEntries entries + 1
  | .held _ => 1
def uptoBulkAll {H : Type} : List (DataW H) → Nat
  | [] => 0
  | d :: r => uptoBulk d + uptoBulkAll r
def uptoBulkEntries {H : Type} : List (Lit × DataW H) → Nat
  | [] => 0
  | x :: r => uptoBulkEntry x + uptoBulkEntries r
def uptoBulkEntry {H : Type} : Lit × DataW H → Nat
  | (.string bytes, d) => bytes.length + uptoBulk d + 1
  | (_, d) => uptoBulk d + 1
 end
def uptoSmall : (H : Type) → List (DataW H) → Bool := fun _ ds => decide (uptoBulkAll ds ≤ 1048576)
def OpenSpec.upto (s : _root_.Go.ChangeSpec) : _root_.Go.OpenSpec := { _root_.Go.OpenSpec.ofChange s with cond := some uptoSmall }

/-- 'laws.FnExactStuck', WHERE WHAT IT READS IS OF BULK AT MOST 1048576: true; the input reads as it did. -/
def fnExactStuckUptoRow : OpenClaim := { program := "ytebinioiggfplaagreat", sum := "202e64e5df384c97ab2587a98001b8a7ea1f7b5c1517e1ca5b477845288f2954", func := "loop.example/g01538/laws.FnExactStuck", spec := "fnExactStuck", unfollowed := true, recurses := true, apart := false, narrowed := true }
def FnExactStuckUptoSaid : Prop := fnExactStuckUptoRow.holds Tryz.pinned (OpenSpec.upto fnExactStuckSpec)

/-- 'laws.FnExactNamed', WHERE WHAT IT READS IS OF BULK AT MOST 1048576: true; the input reads as it did. -/
def fnExactNamedUptoRow : OpenClaim := { program := "ytebinioiggfplaagreat", sum := "202e64e5df384c97ab2587a98001b8a7ea1f7b5c1517e1ca5b477845288f2954", func := "loop.example/g01538/laws.FnExactNamed", spec := "fnExactNamed", unfollowed := true, recurses := true, apart := false, narrowed := true }
def FnExactNamedUptoSaid : Prop := fnExactNamedUptoRow.holds Tryz.pinned (OpenSpec.upto fnExactNamedSpec)

/-- 'laws.FnExactGuarded', WHERE WHAT IT READS IS OF BULK AT MOST 1048576: true; the input reads as it did. -/
def fnExactGuardedUptoRow : OpenClaim := { program := "ytebinioiggfplaagreat", sum := "202e64e5df384c97ab2587a98001b8a7ea1f7b5c1517e1ca5b477845288f2954", func := "loop.example/g01538/laws.FnExactGuarded", spec := "fnExactGuarded", unfollowed := true, recurses := true, apart := false, narrowed := true }
def FnExactGuardedUptoSaid : Prop := fnExactGuardedUptoRow.holds Tryz.pinned (OpenSpec.upto fnExactGuardedSpec)

/-- 'laws.FnExactCollectors', WHERE WHAT IT READS IS OF BULK AT MOST 1048576: true; the input reads as it did. -/
def fnExactCollectorsUptoRow : OpenClaim := { program := "ytebinioiggfplaagreat", sum := "202e64e5df384c97ab2587a98001b8a7ea1f7b5c1517e1ca5b477845288f2954", func := "loop.example/g01538/laws.FnExactCollectors", spec := "fnExactCollectors", unfollowed := true, recurses := true, apart := false, narrowed := true }
def FnExactCollectorsUptoSaid : Prop := fnExactCollectorsUptoRow.holds Tryz.pinned (OpenSpec.upto fnExactCollectorsSpec)

end Rows
end Go.Proofs.YtebinioiggfplaaGreat
