/-
  No cell of these rows narrows 'for every input' (looked for: loops, veiled, ifaces, maps, wideKeys, modest, calm, conditions, laid).
  DERIVED. THE GIVEN ROWS OF THIS SEAT. 10 by the template 'for every input the law returns true; each argument reads behind the call as it read before'; 0 by the template 'total and deterministic' (their statements: YtcanhdhlbghfiaaGreatTotals.lean).
  GIVEN WITH THE SEED: the statements are not yours to turn. If you find one false, say at which input.
  Laid BY PROGRAM, IN A SANDBOX (cutbox-rows.mjs): the forced cells as the released guide's own fill.sh prints them over the translation a7367c2e9f873c77… (all of the seat's roots in one cut). By AI agents, Wed Nov 11 2026. No macro, syntax, notation, axiom, sorry.
-/
import Derived.Test.YtcanhdhlbghfiaaGreatChecked
import GoSem.Claim
import GoSem.ClaimJoined
import GoSem.ClaimMapViews
import Derived.JoinedTies
import Derived.KernelRfl
namespace Go.Proofs.YtcanhdhlbghfiaaGreat
/- THE CELL 'sum', in the pinned program and in every row, IS THE sha256 OF THE DUMP (.gsa) THAT YtcanhdhlbghfiaaGreatProg.lean LOADS. Nothing in Lean hashes anything: it is a label: what it is worth is what the hold of that sum in a sandbox is worth. -/
noncomputable def Tryz.pinned : Pinned := { name := "ytcanhdhlbghfiaagreat", sum := "a7367c2e9f873c77ad28f910734e5f1d5d30a55a48022677ff546489b6723fc0", checked := Tryz.checked }
namespace Rows
def none {H : Type} : Left H := { results := [], args := [] }

/-- 'laws.FnExactTableOk': WHATEVER THE INPUT: true; the input reads as it did. -/
def fnExactTableOkSpec : ChangeSpec := { name := "fnExactTableOk", fn := fun _ => fun
  | [d] => { results := [.lit (.bool true)], args := [d] }
  | _ => none }
def fnExactTableOkRow : OpenClaim := { program := "ytcanhdhlbghfiaagreat", sum := "a7367c2e9f873c77ad28f910734e5f1d5d30a55a48022677ff546489b6723fc0", func := "loop.example/g01538/laws.FnExactTableOk", spec := "fnExactTableOk", unfollowed := true, recurses := true, apart := false }
def FnExactTableOkSaid : Prop := fnExactTableOkRow.holds Tryz.pinned (OpenSpec.ofChange fnExactTableOkSpec)

/-- ITS FALSE NEIGHBOUR: 'it returns false'. Refute it at one input. -/
def fnExactTableOkWrong : ChangeSpec := { name := "fnExactTableOk", fn := fun _ => fun
  | [d] => { results := [.lit (.bool false)], args := [d] }
  | _ => none }
def FnExactTableOkWrongFalsely : Prop := fnExactTableOkRow.holds Tryz.pinned (OpenSpec.ofChange fnExactTableOkWrong)

/-- 'laws.FnExactTableSafe': WHATEVER THE INPUT: true; the input reads as it did. -/
def fnExactTableSafeSpec : ChangeSpec := { name := "fnExactTableSafe", fn := fun _ => fun
  | [d] => { results := [.lit (.bool true)], args := [d] }
  | _ => none }
def fnExactTableSafeRow : OpenClaim := { program := "ytcanhdhlbghfiaagreat", sum := "a7367c2e9f873c77ad28f910734e5f1d5d30a55a48022677ff546489b6723fc0", func := "loop.example/g01538/laws.FnExactTableSafe", spec := "fnExactTableSafe", unfollowed := true, recurses := true, apart := false }
def FnExactTableSafeSaid : Prop := fnExactTableSafeRow.holds Tryz.pinned (OpenSpec.ofChange fnExactTableSafeSpec)

/-- ITS FALSE NEIGHBOUR: 'it returns false'. Refute it at one input. -/
def fnExactTableSafeWrong : ChangeSpec := { name := "fnExactTableSafe", fn := fun _ => fun
  | [d] => { results := [.lit (.bool false)], args := [d] }
  | _ => none }
def FnExactTableSafeWrongFalsely : Prop := fnExactTableSafeRow.holds Tryz.pinned (OpenSpec.ofChange fnExactTableSafeWrong)

/-- 'laws.FnExactSerialOk': WHATEVER THE INPUT: true; the input reads as it did. -/
def fnExactSerialOkSpec : ChangeSpec := { name := "fnExactSerialOk", fn := fun _ => fun
  | [d] => { results := [.lit (.bool true)], args := [d] }
  | _ => none }
def fnExactSerialOkRow : OpenClaim := { program := "ytcanhdhlbghfiaagreat", sum := "a7367c2e9f873c77ad28f910734e5f1d5d30a55a48022677ff546489b6723fc0", func := "loop.example/g01538/laws.FnExactSerialOk", spec := "fnExactSerialOk", inPlace := ["slices.overlaps[loop.example/g01538/impl.KV]"], unfollowed := true, recurses := true, apart := false }
def FnExactSerialOkSaid : Prop := fnExactSerialOkRow.holds Tryz.pinned (OpenSpec.ofChange fnExactSerialOkSpec)

/-- ITS FALSE NEIGHBOUR: 'it returns false'. Refute it at one input. -/
def fnExactSerialOkWrong : ChangeSpec := { name := "fnExactSerialOk", fn := fun _ => fun
  | [d] => { results := [.lit (.bool false)], args := [d] }
  | _ => none }
def FnExactSerialOkWrongFalsely : Prop := fnExactSerialOkRow.holds Tryz.pinned (OpenSpec.ofChange fnExactSerialOkWrong)

/-- 'laws.FnExactTableMap': WHATEVER THE INPUT: true; the input reads as it did. -/
def fnExactTableMapSpec : ChangeSpec := { name := "fnExactTableMap", fn := fun _ => fun
  | [d] => { results := [.lit (.bool true)], args := [d] }
  | _ => none }
def fnExactTableMapRow : OpenClaim := { program := "ytcanhdhlbghfiaagreat", sum := "a7367c2e9f873c77ad28f910734e5f1d5d30a55a48022677ff546489b6723fc0", func := "loop.example/g01538/laws.FnExactTableMap", spec := "fnExactTableMap", inPlace := ["slices.overlaps[loop.example/g01538/impl.KV]"], unfollowed := true, recurses := true, apart := false }
def FnExactTableMapSaid : Prop := fnExactTableMapRow.holds Tryz.pinned (OpenSpec.ofChange fnExactTableMapSpec)

/-- ITS FALSE NEIGHBOUR: 'it returns false'. Refute it at one input. -/
def fnExactTableMapWrong : ChangeSpec := { name := "fnExactTableMap", fn := fun _ => fun
  | [d] => { results := [.lit (.bool false)], args := [d] }
  | _ => none }
def FnExactTableMapWrongFalsely : Prop := fnExactTableMapRow.holds Tryz.pinned (OpenSpec.ofChange fnExactTableMapWrong)

/-- 'laws.FnExactTableGuarded': WHATEVER THE INPUT: true; the input reads as it did. -/
def fnExactTableGuardedSpec : ChangeSpec := { name := "fnExactTableGuarded", fn := fun _ => fun
  | [d] => { results := [.lit (.bool true)], args := [d] }
  | _ => none }
def fnExactTableGuardedRow : OpenClaim := { program := "ytcanhdhlbghfiaagreat", sum := "a7367c2e9f873c77ad28f910734e5f1d5d30a55a48022677ff546489b6723fc0", func := "loop.example/g01538/laws.FnExactTableGuarded", spec := "fnExactTableGuarded", unfollowed := true, recurses := true, apart := false }
def FnExactTableGuardedSaid : Prop := fnExactTableGuardedRow.holds Tryz.pinned (OpenSpec.ofChange fnExactTableGuardedSpec)

/-- ITS FALSE NEIGHBOUR: 'it returns false'. Refute it at one input. -/
def fnExactTableGuardedWrong : ChangeSpec := { name := "fnExactTableGuarded", fn := fun _ => fun
  | [d] => { results := [.lit (.bool false)], args := [d] }
  | _ => none }
def FnExactTableGuardedWrongFalsely : Prop := fnExactTableGuardedRow.holds Tryz.pinned (OpenSpec.ofChange fnExactTableGuardedWrong)

/-- 'laws.FnExactTableAccounted': WHATEVER THE INPUT: true; the input reads as it did. -/
def fnExactTableAccountedSpec : ChangeSpec := { name := "fnExactTableAccounted", fn := fun _ => fun
  | [d] => { results := [.lit (.bool true)], args := [d] }
  | _ => none }
def fnExactTableAccountedRow : OpenClaim := { program := "ytcanhdhlbghfiaagreat", sum := "a7367c2e9f873c77ad28f910734e5f1d5d30a55a48022677ff546489b6723fc0", func := "loop.example/g01538/laws.FnExactTableAccounted", spec := "fnExactTableAccounted", unfollowed := true, recurses := true, apart := false }
def FnExactTableAccountedSaid : Prop := fnExactTableAccountedRow.holds Tryz.pinned (OpenSpec.ofChange fnExactTableAccountedSpec)

/-- ITS FALSE NEIGHBOUR: 'it returns false'. Refute it at one input. -/
def fnExactTableAccountedWrong : ChangeSpec := { name := "fnExactTableAccounted", fn := fun _ => fun
  | [d] => { results := [.lit (.bool false)], args := [d] }
  | _ => none }
def FnExactTableAccountedWrongFalsely : Prop := fnExactTableAccountedRow.holds Tryz.pinned (OpenSpec.ofChange fnExactTableAccountedWrong)

/-- 'laws.FnExactPending': WHATEVER THE INPUT: true; the input reads as it did. -/
def fnExactPendingSpec : ChangeSpec := { name := "fnExactPending", fn := fun _ => fun
  | [d] => { results := [.lit (.bool true)], args := [d] }
  | _ => none }
def fnExactPendingRow : OpenClaim := { program := "ytcanhdhlbghfiaagreat", sum := "a7367c2e9f873c77ad28f910734e5f1d5d30a55a48022677ff546489b6723fc0", func := "loop.example/g01538/laws.FnExactPending", spec := "fnExactPending", unfollowed := true, recurses := true, apart := false }
def FnExactPendingSaid : Prop := fnExactPendingRow.holds Tryz.pinned (OpenSpec.ofChange fnExactPendingSpec)

/-- ITS FALSE NEIGHBOUR: 'it returns false'. Refute it at one input. -/
def fnExactPendingWrong : ChangeSpec := { name := "fnExactPending", fn := fun _ => fun
  | [d] => { results := [.lit (.bool false)], args := [d] }
  | _ => none }
def FnExactPendingWrongFalsely : Prop := fnExactPendingRow.holds Tryz.pinned (OpenSpec.ofChange fnExactPendingWrong)

/-- 'laws.FnExactLinked': WHATEVER THE INPUT: true; the input reads as it did. -/
def fnExactLinkedSpec : ChangeSpec := { name := "fnExactLinked", fn := fun _ => fun
  | [d] => { results := [.lit (.bool true)], args := [d] }
  | _ => none }
def fnExactLinkedRow : OpenClaim := { program := "ytcanhdhlbghfiaagreat", sum := "a7367c2e9f873c77ad28f910734e5f1d5d30a55a48022677ff546489b6723fc0", func := "loop.example/g01538/laws.FnExactLinked", spec := "fnExactLinked", unfollowed := true, recurses := true, apart := false }
def FnExactLinkedSaid : Prop := fnExactLinkedRow.holds Tryz.pinned (OpenSpec.ofChange fnExactLinkedSpec)

/-- ITS FALSE NEIGHBOUR: 'it returns false'. Refute it at one input. -/
def fnExactLinkedWrong : ChangeSpec := { name := "fnExactLinked", fn := fun _ => fun
  | [d] => { results := [.lit (.bool false)], args := [d] }
  | _ => none }
def FnExactLinkedWrongFalsely : Prop := fnExactLinkedRow.holds Tryz.pinned (OpenSpec.ofChange fnExactLinkedWrong)

/-- 'laws.FnExactTableTells': WHATEVER THE INPUT: true; the input reads as it did. -/
def fnExactTableTellsSpec : ChangeSpec := { name := "fnExactTableTells", fn := fun _ => fun
  | [d] => { results := [.lit (.bool true)], args := [d] }
  | _ => none }
def fnExactTableTellsRow : OpenClaim := { program := "ytcanhdhlbghfiaagreat", sum := "a7367c2e9f873c77ad28f910734e5f1d5d30a55a48022677ff546489b6723fc0", func := "loop.example/g01538/laws.FnExactTableTells", spec := "fnExactTableTells", apart := false }
def FnExactTableTellsSaid : Prop := fnExactTableTellsRow.holds Tryz.pinned (OpenSpec.ofChange fnExactTableTellsSpec)

/-- ITS FALSE NEIGHBOUR: 'it returns false'. Refute it at one input. -/
def fnExactTableTellsWrong : ChangeSpec := { name := "fnExactTableTells", fn := fun _ => fun
  | [d] => { results := [.lit (.bool false)], args := [d] }
  | _ => none }
def FnExactTableTellsWrongFalsely : Prop := fnExactTableTellsRow.holds Tryz.pinned (OpenSpec.ofChange fnExactTableTellsWrong)

/-- 'laws.FnExactTableNew': WHATEVER THE INPUT: true; the input reads as it did. -/
def fnExactTableNewSpec : ChangeSpec := { name := "fnExactTableNew", fn := fun _ => fun
  | [d] => { results := [.lit (.bool true)], args := [d] }
  | _ => none }
def fnExactTableNewRow : OpenClaim := { program := "ytcanhdhlbghfiaagreat", sum := "a7367c2e9f873c77ad28f910734e5f1d5d30a55a48022677ff546489b6723fc0", func := "loop.example/g01538/laws.FnExactTableNew", spec := "fnExactTableNew", unfollowed := true, recurses := true, apart := false }
def FnExactTableNewSaid : Prop := fnExactTableNewRow.holds Tryz.pinned (OpenSpec.ofChange fnExactTableNewSpec)

/-- ITS FALSE NEIGHBOUR: 'it returns false'. Refute it at one input. -/
def fnExactTableNewWrong : ChangeSpec := { name := "fnExactTableNew", fn := fun _ => fun
  | [d] => { results := [.lit (.bool false)], args := [d] }
  | _ => none }
def FnExactTableNewWrongFalsely : Prop := fnExactTableNewRow.holds Tryz.pinned (OpenSpec.ofChange fnExactTableNewWrong)

/- THE SECOND FORM. 'bulk': how many values and letters a reading holds, each counted each time it is reached (what is shared counts as often as it is met; a slice's spare places count too). A statement '..UptoSaid' is the law's where the arguments, and the package variables that the reading takes, are together of bulk at most 1048576: NARROWER than '..Said'. Prove '..Said' where nothing that the law and all that it calls make is longer than what came in: it says more and counts as full. Else prove '..UptoSaid'. A law counts once. -/
mutual
def uptoBulk {H : Type} : DataW H → Nat
  | .lit (.string bytes) => bytes.length + 1
  | .lit _ => 1
  | .nil => 1
  | .ptr d => uptoBulk d + 1
  | .slice elems spare => uptoBulkAll elems + uptoBulkAll spare + 1
  | .agg parts => uptoBulkAll parts + 1
  | .iface _ d => uptoBulk d + 1
  | .map entries => uptoBulkEntries entries + 1
  | .held _ => 1
def uptoBulkAll {H : Type} : List (DataW H) → Nat
  | [] => 0
  | d :: r => uptoBulk d + uptoBulkAll r
def uptoBulkEntries {H : Type} : List (Lit × DataW H) → Nat
  | [] => 0
  | x :: r => uptoBulkEntry x + uptoBulkEntries r
def uptoBulkEntry {H : Type} : Lit × DataW H → Nat
  | (.string bytes, d) => bytes.length + uptoBulk d + 1
  | (_, d) => uptoBulk d + 1
 end
def uptoSmall : (H : Type) → List (DataW H) → Bool := fun _ ds => decide (uptoBulkAll ds ≤ 1048576)
def OpenSpec.upto (s : _root_.Go.ChangeSpec) : _root_.Go.OpenSpec := { _root_.Go.OpenSpec.ofChange s with cond := some uptoSmall }

/-- 'laws.FnExactTableOk', WHERE WHAT IT READS IS OF BULK AT MOST 1048576: true; the input reads as it did. -/
def fnExactTableOkUptoRow : OpenClaim := { program := "ytcanhdhlbghfiaagreat", sum := "a7367c2e9f873c77ad28f910734e5f1d5d30a55a48022677ff546489b6723fc0", func := "loop.example/g01538/laws.FnExactTableOk", spec := "fnExactTableOk", unfollowed := true, recurses := true, apart := false, narrowed := true }
def FnExactTableOkUptoSaid : Prop := fnExactTableOkUptoRow.holds Tryz.pinned (OpenSpec.upto fnExactTableOkSpec)

/-- 'laws.FnExactTableSafe', WHERE WHAT IT READS IS OF BULK AT MOST 1048576: true; the input reads as it did. -/
def fnExactTableSafeUptoRow : OpenClaim := { program := "ytcanhdhlbghfiaagreat", sum := "a7367c2e9f873c77ad28f910734e5f1d5d30a55a48022677ff546489b6723fc0", func := "loop.example/g01538/laws.FnExactTableSafe", spec := "fnExactTableSafe", unfollowed := true, recurses := true, apart := false, narrowed := true }
def FnExactTableSafeUptoSaid : Prop := fnExactTableSafeUptoRow.holds Tryz.pinned (OpenSpec.upto fnExactTableSafeSpec)

/-- 'laws.FnExactSerialOk', WHERE WHAT IT READS IS OF BULK AT MOST 1048576: true; the input reads as it did. -/
def fnExactSerialOkUptoRow : OpenClaim := { program := "ytcanhdhlbghfiaagreat", sum := "a7367c2e9f873c77ad28f910734e5f1d5d30a55a48022677ff546489b6723fc0", func := "loop.example/g01538/laws.FnExactSerialOk", spec := "fnExactSerialOk", inPlace := ["slices.overlaps[loop.example/g01538/impl.KV]"], unfollowed := true, recurses := true, apart := false, narrowed := true }
def FnExactSerialOkUptoSaid : Prop := fnExactSerialOkUptoRow.holds Tryz.pinned (OpenSpec.upto fnExactSerialOkSpec)

/-- 'laws.FnExactTableMap', WHERE WHAT IT READS IS OF BULK AT MOST 1048576: true; the input reads as it did. -/
def fnExactTableMapUptoRow : OpenClaim := { program := "ytcanhdhlbghfiaagreat", sum := "a7367c2e9f873c77ad28f910734e5f1d5d30a55a48022677ff546489b6723fc0", func := "loop.example/g01538/laws.FnExactTableMap", spec := "fnExactTableMap", inPlace := ["slices.overlaps[loop.example/g01538/impl.KV]"], unfollowed := true, recurses := true, apart := false, narrowed := true }
def FnExactTableMapUptoSaid : Prop := fnExactTableMapUptoRow.holds Tryz.pinned (OpenSpec.upto fnExactTableMapSpec)

/-- 'laws.FnExactTableGuarded', WHERE WHAT IT READS IS OF BULK AT MOST 1048576: true; the input reads as it did. -/
def fnExactTableGuardedUptoRow : OpenClaim := { program := "ytcanhdhlbghfiaagreat", sum := "a7367c2e9f873c77ad28f910734e5f1d5d30a55a48022677ff546489b6723fc0", func := "loop.example/g01538/laws.FnExactTableGuarded", spec := "fnExactTableGuarded", unfollowed := true, recurses := true, apart := false, narrowed := true }
def FnExactTableGuardedUptoSaid : Prop := fnExactTableGuardedUptoRow.holds Tryz.pinned (OpenSpec.upto fnExactTableGuardedSpec)

/-- 'laws.FnExactTableAccounted', WHERE WHAT IT READS IS OF BULK AT MOST 1048576: true; the input reads as it did. -/
def fnExactTableAccountedUptoRow : OpenClaim := { program := "ytcanhdhlbghfiaagreat", sum := "a7367c2e9f873c77ad28f910734e5f1d5d30a55a48022677ff546489b6723fc0", func := "loop.example/g01538/laws.FnExactTableAccounted", spec := "fnExactTableAccounted", unfollowed := true, recurses := true, apart := false, narrowed := true }
def FnExactTableAccountedUptoSaid : Prop := fnExactTableAccountedUptoRow.holds Tryz.pinned (OpenSpec.upto fnExactTableAccountedSpec)

/-- 'laws.FnExactPending', WHERE WHAT IT READS IS OF BULK AT MOST 1048576: true; the input reads as it did. -/
def fnExactPendingUptoRow : OpenClaim := { program := "ytcanhdhlbghfiaagreat", sum := "a7367c2e9f873c77ad28f910734e5f1d5d30a55a48022677ff546489b6723fc0", func := "loop.example/g01538/laws.FnExactPending", spec := "fnExactPending", unfollowed := true, recurses := true, apart := false, narrowed := true }
def FnExactPendingUptoSaid : Prop := fnExactPendingUptoRow.holds Tryz.pinned (OpenSpec.upto fnExactPendingSpec)

/-- 'laws.FnExactLinked', WHERE WHAT IT READS IS OF BULK AT MOST 1048576: true; the input reads as it did. -/
def fnExactLinkedUptoRow : OpenClaim := { program := "ytcanhdhlbghfiaagreat", sum := "a7367c2e9f873c77ad28f910734e5f1d5d30a55a48022677ff546489b6723fc0", func := "loop.example/g01538/laws.FnExactLinked", spec := "fnExactLinked", unfollowed := true, recurses := true, apart := false, narrowed := true }
def FnExactLinkedUptoSaid : Prop := fnExactLinkedUptoRow.holds Tryz.pinned (OpenSpec.upto fnExactLinkedSpec)

/-- 'laws.FnExactTableTells', WHERE WHAT IT READS IS OF BULK AT MOST 1048576: true; the input reads as it did. -/
def fnExactTableTellsUptoRow : OpenClaim := { program := "ytcanhdhlbghfiaagreat", sum := "a7367c2e9f873c77ad28f910734e5f1d5d30a55a48022677ff546489b6723fc0", func := "loop.example/g01538/laws.FnExactTableTells", spec := "fnExactTableTells", apart := false, narrowed := true }
def FnExactTableTellsUptoSaid : Prop := fnExactTableTellsUptoRow.holds Tryz.pinned (OpenSpec.upto fnExactTableTellsSpec)

/-- 'laws.FnExactTableNew', WHERE WHAT IT READS IS OF BULK AT MOST 1048576: true; the input reads as it did. -/
def fnExactTableNewUptoRow : OpenClaim := { program := "ytcanhdhlbghfiaagreat", sum := "a7367c2e9f873c77ad28f910734e5f1d5d30a55a48022677ff546489b6723fc0", func := "loop.example/g01538/laws.FnExactTableNew", spec := "fnExactTableNew", unfollowed := true, recurses := true, apart := false, narrowed := true }
def FnExactTableNewUptoSaid : Prop := fnExactTableNewUptoRow.holds Tryz.pinned (OpenSpec.upto fnExactTableNewSpec)

end Rows
end Go.Proofs.YtcanhdhlbghfiaaGreat
