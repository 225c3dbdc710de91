/-
  No cell of these rows narrows 'for every input' (looked for: loops, veiled, ifaces, maps, wideKeys, modest, calm, conditions, laid).
  DERIVED. THE GIVEN ROWS OF THIS SEAT. 3 by the template 'for every input the law returns true; each argument reads behind the call as it read before'; 0 by the template 'total and deterministic' (their statements: YtkmmgklnoagedaaGreatTotals.lean).
  GIVEN WITH THE SEED: the statements are not yours to turn. If you find one false, say at which input.
  Laid BY PROGRAM, IN A SANDBOX (cutbox-rows.mjs): the forced cells as the released guide's own fill.sh prints them over the translation 737a906201b13066… (all of the seat's roots in one cut). By AI agents, Wed Nov 11 2026. No macro, syntax, notation, axiom, sorry.
-/
import Derived.Test.YtkmmgklnoagedaaGreatChecked
import GoSem.Claim
import GoSem.ClaimJoined
import GoSem.ClaimMapViews
import Derived.JoinedTies
import Derived.KernelRfl
namespace Go.Proofs.YtkmmgklnoagedaaGreat
/- THE CELL 'sum', in the pinned program and in every row, IS THE sha256 OF THE DUMP (.gsa) THAT YtkmmgklnoagedaaGreatProg.lean LOADS. Nothing in Lean hashes anything: it is a label: what it is worth is what the hold of that sum in a sandbox is worth. -/
noncomputable def Tryz.pinned : Pinned := { name := "ytkmmgklnoagedaagreat", sum := "737a906201b13066fb39c744d4f26e20e95f4796ccef36983bcba093ad6888e8", checked := Tryz.checked }
namespace Rows
def none {H : Type} : Left H := { results := [], args := [] }

/-- 'laws.FnExactTableNew': WHATEVER THE INPUT: true; the input reads as it did. -/
def fnExactTableNewSpec : ChangeSpec := { name := "fnExactTableNew", fn := fun _ => fun
  | [d] => { results := [.lit (.bool true)], args := [d] }
  | _ => none }
def fnExactTableNewRow : OpenClaim := { program := "ytkmmgklnoagedaagreat", sum := "737a906201b13066fb39c744d4f26e20e95f4796ccef36983bcba093ad6888e8", func := "loop.example/g01538/laws.FnExactTableNew", spec := "fnExactTableNew", unfollowed := true, recurses := true, apart := false }
def FnExactTableNewSaid : Prop := fnExactTableNewRow.holds Tryz.pinned (OpenSpec.ofChange fnExactTableNewSpec)

/-- ITS FALSE NEIGHBOUR: 'it returns false'. Refute it at one input. -/
def fnExactTableNewWrong : ChangeSpec := { name := "fnExactTableNew", fn := fun _ => fun
  | [d] => { results := [.lit (.bool false)], args := [d] }
  | _ => none }
def FnExactTableNewWrongFalsely : Prop := fnExactTableNewRow.holds Tryz.pinned (OpenSpec.ofChange fnExactTableNewWrong)

/-- 'laws.FnExactSerialOk': WHATEVER THE INPUT: true; the input reads as it did. -/
def fnExactSerialOkSpec : ChangeSpec := { name := "fnExactSerialOk", fn := fun _ => fun
  | [d] => { results := [.lit (.bool true)], args := [d] }
  | _ => none }
def fnExactSerialOkRow : OpenClaim := { program := "ytkmmgklnoagedaagreat", sum := "737a906201b13066fb39c744d4f26e20e95f4796ccef36983bcba093ad6888e8", func := "loop.example/g01538/laws.FnExactSerialOk", spec := "fnExactSerialOk", inPlace := ["slices.overlaps[loop.example/g01538/impl.KV]"], unfollowed := true, recurses := true, apart := false }
def FnExactSerialOkSaid : Prop := fnExactSerialOkRow.holds Tryz.pinned (OpenSpec.ofChange fnExactSerialOkSpec)

/-- ITS FALSE NEIGHBOUR: 'it returns false'. Refute it at one input. -/
def fnExactSerialOkWrong : ChangeSpec := { name := "fnExactSerialOk", fn := fun _ => fun
  | [d] => { results := [.lit (.bool false)], args := [d] }
  | _ => none }
def FnExactSerialOkWrongFalsely : Prop := fnExactSerialOkRow.holds Tryz.pinned (OpenSpec.ofChange fnExactSerialOkWrong)

/-- 'laws.FnExactTableMap': WHATEVER THE INPUT: true; the input reads as it did. -/
def fnExactTableMapSpec : ChangeSpec := { name := "fnExactTableMap", fn := fun _ => fun
  | [d] => { results := [.lit (.bool true)], args := [d] }
  | _ => none }
def fnExactTableMapRow : OpenClaim := { program := "ytkmmgklnoagedaagreat", sum := "737a906201b13066fb39c744d4f26e20e95f4796ccef36983bcba093ad6888e8", func := "loop.example/g01538/laws.FnExactTableMap", spec := "fnExactTableMap", inPlace := ["slices.overlaps[loop.example/g01538/impl.KV]"], unfollowed := true, recurses := true, apart := false }
def FnExactTableMapSaid : Prop := fnExactTableMapRow.holds Tryz.pinned (OpenSpec.ofChange fnExactTableMapSpec)

/-- ITS FALSE NEIGHBOUR: 'it returns false'. Refute it at one input. -/
def fnExactTableMapWrong : ChangeSpec := { name := "fnExactTableMap", fn := fun _ => fun
  | [d] => { results := [.lit (.bool false)], args := [d] }
  | _ => none }
def FnExactTableMapWrongFalsely : Prop := fnExactTableMapRow.holds Tryz.pinned (OpenSpec.ofChange fnExactTableMapWrong)

/- THE SECOND FORM. 'bulk': how many values and letters a reading holds, each counted each time it is reached (what is shared counts as often as it is met; a slice's spare places count too). A statement '..UptoSaid' is the law's where the arguments, and the package variables that the reading takes, are together of bulk at most 1048576: NARROWER than '..Said'. Prove '..Said' where nothing that the law and all that it calls make is longer than what came in: it says more and counts as full. Else prove '..UptoSaid'. A law counts once. -/
mutual
def uptoBulk {H : Type} : DataW H → Nat
  | .lit (.string bytes) => bytes.length + 1
  | .lit _ => 1
  | .nil => 1
  | .ptr d => uptoBulk d + 1
  | .slice elems spare => uptoBulkAll elems + uptoBulkAll spare + 1
  | .agg parts => uptoBulkAll parts + 1
  | .iface _ d => uptoBulk d + 1
  | .map entries => uptoBulkEntries entries + 1
  | .held _ => 1
def uptoBulkAll {H : Type} : List (DataW H) → Nat
  | [] => 0
  | d :: r => uptoBulk d + uptoBulkAll r
def uptoBulkEntries {H : Type} : List (Lit × DataW H) → Nat
  | [] => 0
  | x :: r => uptoBulkEntry x + uptoBulkEntries r
def uptoBulkEntry {H : Type} : Lit × DataW H → Nat
  | (.string bytes, d) => bytes.length + uptoBulk d + 1
  | (_, d) => uptoBulk d + 1
 end
def uptoSmall : (H : Type) → List (DataW H) → Bool := fun _ ds => decide (uptoBulkAll ds ≤ 1048576)
def OpenSpec.upto (s : _root_.Go.ChangeSpec) : _root_.Go.OpenSpec := { _root_.Go.OpenSpec.ofChange s with cond := some uptoSmall }

/-- 'laws.FnExactTableNew', WHERE WHAT IT READS IS OF BULK AT MOST 1048576: true; the input reads as it did. -/
def fnExactTableNewUptoRow : OpenClaim := { program := "ytkmmgklnoagedaagreat", sum := "737a906201b13066fb39c744d4f26e20e95f4796ccef36983bcba093ad6888e8", func := "loop.example/g01538/laws.FnExactTableNew", spec := "fnExactTableNew", unfollowed := true, recurses := true, apart := false, narrowed := true }
def FnExactTableNewUptoSaid : Prop := fnExactTableNewUptoRow.holds Tryz.pinned (OpenSpec.upto fnExactTableNewSpec)

/-- 'laws.FnExactSerialOk', WHERE WHAT IT READS IS OF BULK AT MOST 1048576: true; the input reads as it did. -/
def fnExactSerialOkUptoRow : OpenClaim := { program := "ytkmmgklnoagedaagreat", sum := "737a906201b13066fb39c744d4f26e20e95f4796ccef36983bcba093ad6888e8", func := "loop.example/g01538/laws.FnExactSerialOk", spec := "fnExactSerialOk", inPlace := ["slices.overlaps[loop.example/g01538/impl.KV]"], unfollowed := true, recurses := true, apart := false, narrowed := true }
def FnExactSerialOkUptoSaid : Prop := fnExactSerialOkUptoRow.holds Tryz.pinned (OpenSpec.upto fnExactSerialOkSpec)

/-- 'laws.FnExactTableMap', WHERE WHAT IT READS IS OF BULK AT MOST 1048576: true; the input reads as it did. -/
def fnExactTableMapUptoRow : OpenClaim := { program := "ytkmmgklnoagedaagreat", sum := "737a906201b13066fb39c744d4f26e20e95f4796ccef36983bcba093ad6888e8", func := "loop.example/g01538/laws.FnExactTableMap", spec := "fnExactTableMap", inPlace := ["slices.overlaps[loop.example/g01538/impl.KV]"], unfollowed := true, recurses := true, apart := false, narrowed := true }
def FnExactTableMapUptoSaid : Prop := fnExactTableMapUptoRow.holds Tryz.pinned (OpenSpec.upto fnExactTableMapSpec)

end Rows
end Go.Proofs.YtkmmgklnoagedaaGreat
