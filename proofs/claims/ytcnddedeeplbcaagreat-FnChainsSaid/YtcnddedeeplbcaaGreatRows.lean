/-
  No cell of these rows narrows 'for every input' (looked for: loops, veiled, ifaces, maps, wideKeys, modest, calm, conditions, laid).
  DERIVED. THE GIVEN ROWS OF THIS SEAT. 4 by the template 'for every input the law returns true; each argument reads behind the call as it read before'; 0 by the template 'total and deterministic' (their statements: YtcnddedeeplbcaaGreatTotals.lean).
  GIVEN WITH THE SEED: the statements are not yours to turn. If you find one false, say at which input.
  Laid BY PROGRAM, IN A SANDBOX (cutbox-rows.mjs): the forced cells as the released guide's own fill.sh prints them over the translation cc439dd06754e168… (all of the seat's roots in one cut). By AI agents, Wed Nov 11 2026. No macro, syntax, notation, axiom, sorry.
-/
import Derived.Test.YtcnddedeeplbcaaGreatChecked
import GoSem.Claim
import GoSem.ClaimJoined
import GoSem.ClaimMapViews
import Derived.JoinedTies
import Derived.KernelRfl
namespace Go.Proofs.YtcnddedeeplbcaaGreat
/- THE CELL 'sum', in the pinned program and in every row, IS THE sha256 OF THE DUMP (.gsa) THAT YtcnddedeeplbcaaGreatProg.lean LOADS. Nothing in Lean hashes anything: it is a label: what it is worth is what the hold of that sum in a sandbox is worth. -/
noncomputable def Tryz.pinned : Pinned := { name := "ytcnddedeeplbcaagreat", sum := "cc439dd06754e168e8828d743290f140f8415d7039021237a6e02dd94a6aa009", checked := Tryz.checked }
namespace Rows
def none {H : Type} : Left H := { results := [], args := [] }

/-- 'laws.FnNodes': WHATEVER THE INPUT: true; the input reads as it did. -/
def fnNodesSpec : ChangeSpec := { name := "fnNodes", fn := fun _ => fun
  | [d] => { results := [.lit (.bool true)], args := [d] }
  | _ => none }
def fnNodesRow : OpenClaim := { program := "ytcnddedeeplbcaagreat", sum := "cc439dd06754e168e8828d743290f140f8415d7039021237a6e02dd94a6aa009", func := "loop.example/g01538/laws.FnNodes", spec := "fnNodes", unfollowed := true, recurses := true, apart := false }
def FnNodesSaid : Prop := fnNodesRow.holds Tryz.pinned (OpenSpec.ofChange fnNodesSpec)

/-- ITS FALSE NEIGHBOUR: 'it returns false'. Refute it at one input. -/
def fnNodesWrong : ChangeSpec := { name := "fnNodes", fn := fun _ => fun
  | [d] => { results := [.lit (.bool false)], args := [d] }
  | _ => none }
def FnNodesWrongFalsely : Prop := fnNodesRow.holds Tryz.pinned (OpenSpec.ofChange fnNodesWrong)

/-- 'laws.FnSeeks': WHATEVER THE INPUT: true; the input reads as it did. -/
def fnSeeksSpec : ChangeSpec := { name := "fnSeeks", fn := fun _ => fun
  | [d] => { results := [.lit (.bool true)], args := [d] }
  | _ => none }
def fnSeeksRow : OpenClaim := { program := "ytcnddedeeplbcaagreat", sum := "cc439dd06754e168e8828d743290f140f8415d7039021237a6e02dd94a6aa009", func := "loop.example/g01538/laws.FnSeeks", spec := "fnSeeks", unfollowed := true, recurses := true, apart := false }
def FnSeeksSaid : Prop := fnSeeksRow.holds Tryz.pinned (OpenSpec.ofChange fnSeeksSpec)

/-- ITS FALSE NEIGHBOUR: 'it returns false'. Refute it at one input. -/
def fnSeeksWrong : ChangeSpec := { name := "fnSeeks", fn := fun _ => fun
  | [d] => { results := [.lit (.bool false)], args := [d] }
  | _ => none }
def FnSeeksWrongFalsely : Prop := fnSeeksRow.holds Tryz.pinned (OpenSpec.ofChange fnSeeksWrong)

/-- 'laws.FnChains': WHATEVER THE INPUT: true; the input reads as it did. -/
def fnChainsSpec : ChangeSpec := { name := "fnChains", fn := fun _ => fun
  | [d] => { results := [.lit (.bool true)], args := [d] }
  | _ => none }
def fnChainsRow : OpenClaim := { program := "ytcnddedeeplbcaagreat", sum := "cc439dd06754e168e8828d743290f140f8415d7039021237a6e02dd94a6aa009", func := "loop.example/g01538/laws.FnChains", spec := "fnChains", unfollowed := true, recurses := true, apart := false }
def FnChainsSaid : Prop := fnChainsRow.holds Tryz.pinned (OpenSpec.ofChange fnChainsSpec)

/-- ITS FALSE NEIGHBOUR: 'it returns false'. Refute it at one input. -/
def fnChainsWrong : ChangeSpec := { name := "fnChains", fn := fun _ => fun
  | [d] => { results := [.lit (.bool false)], args := [d] }
  | _ => none }
def FnChainsWrongFalsely : Prop := fnChainsRow.holds Tryz.pinned (OpenSpec.ofChange fnChainsWrong)

/-- 'laws.FnExactCollectors': WHATEVER THE INPUT: true; the input reads as it did. -/
def fnExactCollectorsSpec : ChangeSpec := { name := "fnExactCollectors", fn := fun _ => fun
  | [d1, d2] => { results := [.lit (.bool true)], args := [d1, d2] }
  | _ => none }
def fnExactCollectorsRow : OpenClaim := { program := "ytcnddedeeplbcaagreat", sum := "cc439dd06754e168e8828d743290f140f8415d7039021237a6e02dd94a6aa009", func := "loop.example/g01538/laws.FnExactCollectors", spec := "fnExactCollectors", unfollowed := true, recurses := true, apart := false }
def FnExactCollectorsSaid : Prop := fnExactCollectorsRow.holds Tryz.pinned (OpenSpec.ofChange fnExactCollectorsSpec)

/-- ITS FALSE NEIGHBOUR: 'it returns false'. Refute it at one input. -/
def fnExactCollectorsWrong : ChangeSpec := { name := "fnExactCollectors", fn := fun _ => fun
  | [d1, d2] => { results := [.lit (.bool false)], args := [d1, d2] }
  | _ => none }
def FnExactCollectorsWrongFalsely : Prop := fnExactCollectorsRow.holds Tryz.pinned (OpenSpec.ofChange fnExactCollectorsWrong)

/- THE SECOND FORM. 'bulk': how many values and letters a reading holds, each counted each time it is reached (what is shared counts as often as it is met; a slice's spare places count too). A statement '..UptoSaid' is the law's where the arguments, and the package variables that the reading takes, are together of bulk at most 1048576: NARROWER than '..Said'. Prove '..Said' where nothing that the law and all that it calls make is longer than what came in: it says more and counts as full. Else prove '..UptoSaid'. A law counts once. -/
mutual
def uptoBulk {H : Type} : DataW H → Nat
  | .lit (.string bytes) => bytes.length + 1
  | .lit _ => 1
  | .nil => 1
  | .ptr d => uptoBulk d + 1
  | .slice elems spare => uptoBulkAll elems + uptoBulkAll spare + 1
  | .agg parts => uptoBulkAll parts + 1
  | .iface _ d => uptoBulk d + 1
  | .map entries => uptoBulkEntries entries + 1
  | .held _ => 1
def uptoBulkAll {H : Type} : List (DataW H) → Nat
  | [] => 0
  | d :: r => uptoBulk d + uptoBulkAll r
def uptoBulkEntries {H : Type} : List (Lit × DataW H) → Nat
  | [] => 0
  | x :: r => uptoBulkEntry x + uptoBulkEntries r
def uptoBulkEntry {H : Type} : Lit × DataW H → Nat
  | (.string bytes, d) => bytes.length + uptoBulk d + 1
  | (_, d) => uptoBulk d + 1
 end
def uptoSmall : (H : Type) → List (DataW H) → Bool := fun _ ds => decide (uptoBulkAll ds ≤ 1048576)
def OpenSpec.upto (s : _root_.Go.ChangeSpec) : _root_.Go.OpenSpec := { _root_.Go.OpenSpec.ofChange s with cond := some uptoSmall }

/-- 'laws.FnNodes', WHERE WHAT IT READS IS OF BULK AT MOST 1048576: true; the input reads as it did. -/
def fnNodesUptoRow : OpenClaim := { program := "ytcnddedeeplbcaagreat", sum := "cc439dd06754e168e8828d743290f140f8415d7039021237a6e02dd94a6aa009", func := "loop.example/g01538/laws.FnNodes", spec := "fnNodes", unfollowed := true, recurses := true, apart := false, narrowed := true }
def FnNodesUptoSaid : Prop := fnNodesUptoRow.holds Tryz.pinned (OpenSpec.upto fnNodesSpec)

/-- 'laws.FnSeeks', WHERE WHAT IT READS IS OF BULK AT MOST 1048576: true; the input reads as it did. -/
def fnSeeksUptoRow : OpenClaim := { program := "ytcnddedeeplbcaagreat", sum := "cc439dd06754e168e8828d743290f140f8415d7039021237a6e02dd94a6aa009", func := "loop.example/g01538/laws.FnSeeks", spec := "fnSeeks", unfollowed := true, recurses := true, apart := false, narrowed := true }
def FnSeeksUptoSaid : Prop := fnSeeksUptoRow.holds Tryz.pinned (OpenSpec.upto fnSeeksSpec)

/-- 'laws.FnChains', WHERE WHAT IT READS IS OF BULK AT MOST 1048576: true; the input reads as it did. -/
def fnChainsUptoRow : OpenClaim := { program := "ytcnddedeeplbcaagreat", sum := "cc439dd06754e168e8828d743290f140f8415d7039021237a6e02dd94a6aa009", func := "loop.example/g01538/laws.FnChains", spec := "fnChains", unfollowed := true, recurses := true, apart := false, narrowed := true }
def FnChainsUptoSaid : Prop := fnChainsUptoRow.holds Tryz.pinned (OpenSpec.upto fnChainsSpec)

/-- 'laws.FnExactCollectors', WHERE WHAT IT READS IS OF BULK AT MOST 1048576: true; the input reads as it did. -/
def fnExactCollectorsUptoRow : OpenClaim := { program := "ytcnddedeeplbcaagreat", sum := "cc439dd06754e168e8828d743290f140f8415d7039021237a6e02dd94a6aa009", func := "loop.example/g01538/laws.FnExactCollectors", spec := "fnExactCollectors", unfollowed := true, recurses := true, apart := false, narrowed := true }
def FnExactCollectorsUptoSaid : Prop := fnExactCollectorsUptoRow.holds Tryz.pinned (OpenSpec.upto fnExactCollectorsSpec)

end Rows
end Go.Proofs.YtcnddedeeplbcaaGreat
