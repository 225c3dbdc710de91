/-
  No cell of these rows narrows 'for every input' (looked for: loops, veiled, ifaces, maps, wideKeys, modest, calm, conditions, laid).
  DERIVED. THE GIVEN ROWS OF THIS SEAT. 12 by the template 'for every input the law returns true; each argument reads behind the call as it read before'; 0 by the template 'total and deterministic' (their statements: YtdjhjgcdddegkaaTotals.lean).
  GIVEN WITH THE SEED: the statements are not yours to turn. If you find one false, say at which input.
  Laid BY PROGRAM, IN A SANDBOX (cutbox-rows.mjs): the forced cells as the released guide's own fill.sh prints them over the translation 1d21667b3c4f6258… (all of the seat's roots in one cut). By AI agents, Wed Nov 11 2026. No macro, syntax, notation, axiom, sorry.
-/
import Derived.Test.YtdjhjgcdddegkaaChecked
import GoSem.Claim
import GoSem.ClaimJoined
import GoSem.ClaimMapViews
import Derived.JoinedTies
import Derived.KernelRfl
namespace Go.Proofs.Ytdjhjgcdddegkaa
/- THE CELL 'sum', in the pinned program and in every row, IS THE sha256 OF THE DUMP (.gsa) THAT YtdjhjgcdddegkaaProg.lean LOADS. Nothing in Lean hashes anything: it is a label: what it is worth is what the hold of that sum in a sandbox is worth. -/
noncomputable def Try.pinned : Pinned := { name := "ytdjhjgcdddegkaa", sum := "1d21667b3c4f6258afa14bcd7b01b1d8f2e1ce46a5e891702fed3eb8cebdc04a", checked := Try.checked }
namespace Rows
def none {H : Type} : Left H := { results := [], args := [] }

/-- 'laws.FnExactBktOf': WHATEVER THE INPUT: true; the input reads as it did. -/
def fnExactBktOfSpec : ChangeSpec := { name := "fnExactBktOf", fn := fun _ => fun
  | [d] => { results := [.lit (.bool true)], args := [d] }
  | _ => none }
def fnExactBktOfRow : OpenClaim := { program := "ytdjhjgcdddegkaa", sum := "1d21667b3c4f6258afa14bcd7b01b1d8f2e1ce46a5e891702fed3eb8cebdc04a", func := "loop.example/g01538/laws.FnExactBktOf", spec := "fnExactBktOf", apart := false }
def FnExactBktOfSaid : Prop := fnExactBktOfRow.holds Try.pinned (OpenSpec.ofChange fnExactBktOfSpec)

/-- ITS FALSE NEIGHBOUR: 'it returns false'. Refute it at one input. -/
def fnExactBktOfWrong : ChangeSpec := { name := "fnExactBktOf", fn := fun _ => fun
  | [d] => { results := [.lit (.bool false)], args := [d] }
  | _ => none }
def FnExactBktOfWrongFalsely : Prop := fnExactBktOfRow.holds Try.pinned (OpenSpec.ofChange fnExactBktOfWrong)

/-- 'laws.FnExactStepWord': WHATEVER THE INPUT: true; the input reads as it did. -/
def fnExactStepWordSpec : ChangeSpec := { name := "fnExactStepWord", fn := fun _ => fun
  | [d] => { results := [.lit (.bool true)], args := [d] }
  | _ => none }
def fnExactStepWordRow : OpenClaim := { program := "ytdjhjgcdddegkaa", sum := "1d21667b3c4f6258afa14bcd7b01b1d8f2e1ce46a5e891702fed3eb8cebdc04a", func := "loop.example/g01538/laws.FnExactStepWord", spec := "fnExactStepWord", apart := false }
def FnExactStepWordSaid : Prop := fnExactStepWordRow.holds Try.pinned (OpenSpec.ofChange fnExactStepWordSpec)

/-- ITS FALSE NEIGHBOUR: 'it returns false'. Refute it at one input. -/
def fnExactStepWordWrong : ChangeSpec := { name := "fnExactStepWord", fn := fun _ => fun
  | [d] => { results := [.lit (.bool false)], args := [d] }
  | _ => none }
def FnExactStepWordWrongFalsely : Prop := fnExactStepWordRow.holds Try.pinned (OpenSpec.ofChange fnExactStepWordWrong)

/-- 'laws.FnExactBktOk': WHATEVER THE INPUT: true; the input reads as it did. -/
def fnExactBktOkSpec : ChangeSpec := { name := "fnExactBktOk", fn := fun _ => fun
  | [d] => { results := [.lit (.bool true)], args := [d] }
  | _ => none }
def fnExactBktOkRow : OpenClaim := { program := "ytdjhjgcdddegkaa", sum := "1d21667b3c4f6258afa14bcd7b01b1d8f2e1ce46a5e891702fed3eb8cebdc04a", func := "loop.example/g01538/laws.FnExactBktOk", spec := "fnExactBktOk", apart := false }
def FnExactBktOkSaid : Prop := fnExactBktOkRow.holds Try.pinned (OpenSpec.ofChange fnExactBktOkSpec)

/-- ITS FALSE NEIGHBOUR: 'it returns false'. Refute it at one input. -/
def fnExactBktOkWrong : ChangeSpec := { name := "fnExactBktOk", fn := fun _ => fun
  | [d] => { results := [.lit (.bool false)], args := [d] }
  | _ => none }
def FnExactBktOkWrongFalsely : Prop := fnExactBktOkRow.holds Try.pinned (OpenSpec.ofChange fnExactBktOkWrong)

/-- 'laws.FnExactNodeOk': WHATEVER THE INPUT: true; the input reads as it did. -/
def fnExactNodeOkSpec : ChangeSpec := { name := "fnExactNodeOk", fn := fun _ => fun
  | [d] => { results := [.lit (.bool true)], args := [d] }
  | _ => none }
def fnExactNodeOkRow : OpenClaim := { program := "ytdjhjgcdddegkaa", sum := "1d21667b3c4f6258afa14bcd7b01b1d8f2e1ce46a5e891702fed3eb8cebdc04a", func := "loop.example/g01538/laws.FnExactNodeOk", spec := "fnExactNodeOk", apart := false }
def FnExactNodeOkSaid : Prop := fnExactNodeOkRow.holds Try.pinned (OpenSpec.ofChange fnExactNodeOkSpec)

/-- ITS FALSE NEIGHBOUR: 'it returns false'. Refute it at one input. -/
def fnExactNodeOkWrong : ChangeSpec := { name := "fnExactNodeOk", fn := fun _ => fun
  | [d] => { results := [.lit (.bool false)], args := [d] }
  | _ => none }
def FnExactNodeOkWrongFalsely : Prop := fnExactNodeOkRow.holds Try.pinned (OpenSpec.ofChange fnExactNodeOkWrong)

/-- 'laws.FnExactCmdOk': WHATEVER THE INPUT: true; the input reads as it did. -/
def fnExactCmdOkSpec : ChangeSpec := { name := "fnExactCmdOk", fn := fun _ => fun
  | [d] => { results := [.lit (.bool true)], args := [d] }
  | _ => none }
def fnExactCmdOkRow : OpenClaim := { program := "ytdjhjgcdddegkaa", sum := "1d21667b3c4f6258afa14bcd7b01b1d8f2e1ce46a5e891702fed3eb8cebdc04a", func := "loop.example/g01538/laws.FnExactCmdOk", spec := "fnExactCmdOk", apart := false }
def FnExactCmdOkSaid : Prop := fnExactCmdOkRow.holds Try.pinned (OpenSpec.ofChange fnExactCmdOkSpec)

/-- ITS FALSE NEIGHBOUR: 'it returns false'. Refute it at one input. -/
def fnExactCmdOkWrong : ChangeSpec := { name := "fnExactCmdOk", fn := fun _ => fun
  | [d] => { results := [.lit (.bool false)], args := [d] }
  | _ => none }
def FnExactCmdOkWrongFalsely : Prop := fnExactCmdOkRow.holds Try.pinned (OpenSpec.ofChange fnExactCmdOkWrong)

/-- 'laws.FnExactMapGet': WHATEVER THE INPUT: true; the input reads as it did. -/
def fnExactMapGetSpec : ChangeSpec := { name := "fnExactMapGet", fn := fun _ => fun
  | [d1, d2] => { results := [.lit (.bool true)], args := [d1, d2] }
  | _ => none }
def fnExactMapGetRow : OpenClaim := { program := "ytdjhjgcdddegkaa", sum := "1d21667b3c4f6258afa14bcd7b01b1d8f2e1ce46a5e891702fed3eb8cebdc04a", func := "loop.example/g01538/laws.FnExactMapGet", spec := "fnExactMapGet", apart := false }
def FnExactMapGetSaid : Prop := fnExactMapGetRow.holds Try.pinned (OpenSpec.ofChange fnExactMapGetSpec)

/-- ITS FALSE NEIGHBOUR: 'it returns false'. Refute it at one input. -/
def fnExactMapGetWrong : ChangeSpec := { name := "fnExactMapGet", fn := fun _ => fun
  | [d1, d2] => { results := [.lit (.bool false)], args := [d1, d2] }
  | _ => none }
def FnExactMapGetWrongFalsely : Prop := fnExactMapGetRow.holds Try.pinned (OpenSpec.ofChange fnExactMapGetWrong)

/-- 'laws.FnExactMapOk': WHATEVER THE INPUT: true; the input reads as it did. -/
def fnExactMapOkSpec : ChangeSpec := { name := "fnExactMapOk", fn := fun _ => fun
  | [d] => { results := [.lit (.bool true)], args := [d] }
  | _ => none }
def fnExactMapOkRow : OpenClaim := { program := "ytdjhjgcdddegkaa", sum := "1d21667b3c4f6258afa14bcd7b01b1d8f2e1ce46a5e891702fed3eb8cebdc04a", func := "loop.example/g01538/laws.FnExactMapOk", spec := "fnExactMapOk", apart := false }
def FnExactMapOkSaid : Prop := fnExactMapOkRow.holds Try.pinned (OpenSpec.ofChange fnExactMapOkSpec)

/-- ITS FALSE NEIGHBOUR: 'it returns false'. Refute it at one input. -/
def fnExactMapOkWrong : ChangeSpec := { name := "fnExactMapOk", fn := fun _ => fun
  | [d] => { results := [.lit (.bool false)], args := [d] }
  | _ => none }
def FnExactMapOkWrongFalsely : Prop := fnExactMapOkRow.holds Try.pinned (OpenSpec.ofChange fnExactMapOkWrong)

/-- 'laws.FnExactPuts': WHATEVER THE INPUT: true; the input reads as it did. -/
def fnExactPutsSpec : ChangeSpec := { name := "fnExactPuts", fn := fun _ => fun
  | [d1, d2] => { results := [.lit (.bool true)], args := [d1, d2] }
  | _ => none }
def fnExactPutsRow : OpenClaim := { program := "ytdjhjgcdddegkaa", sum := "1d21667b3c4f6258afa14bcd7b01b1d8f2e1ce46a5e891702fed3eb8cebdc04a", func := "loop.example/g01538/laws.FnExactPuts", spec := "fnExactPuts", apart := false }
def FnExactPutsSaid : Prop := fnExactPutsRow.holds Try.pinned (OpenSpec.ofChange fnExactPutsSpec)

/-- ITS FALSE NEIGHBOUR: 'it returns false'. Refute it at one input. -/
def fnExactPutsWrong : ChangeSpec := { name := "fnExactPuts", fn := fun _ => fun
  | [d1, d2] => { results := [.lit (.bool false)], args := [d1, d2] }
  | _ => none }
def FnExactPutsWrongFalsely : Prop := fnExactPutsRow.holds Try.pinned (OpenSpec.ofChange fnExactPutsWrong)

/-- 'laws.FnExactSameMap': WHATEVER THE INPUT: true; the input reads as it did. -/
def fnExactSameMapSpec : ChangeSpec := { name := "fnExactSameMap", fn := fun _ => fun
  | [d1, d2] => { results := [.lit (.bool true)], args := [d1, d2] }
  | _ => none }
def fnExactSameMapRow : OpenClaim := { program := "ytdjhjgcdddegkaa", sum := "1d21667b3c4f6258afa14bcd7b01b1d8f2e1ce46a5e891702fed3eb8cebdc04a", func := "loop.example/g01538/laws.FnExactSameMap", spec := "fnExactSameMap", apart := false }
def FnExactSameMapSaid : Prop := fnExactSameMapRow.holds Try.pinned (OpenSpec.ofChange fnExactSameMapSpec)

/-- ITS FALSE NEIGHBOUR: 'it returns false'. Refute it at one input. -/
def fnExactSameMapWrong : ChangeSpec := { name := "fnExactSameMap", fn := fun _ => fun
  | [d1, d2] => { results := [.lit (.bool false)], args := [d1, d2] }
  | _ => none }
def FnExactSameMapWrongFalsely : Prop := fnExactSameMapRow.holds Try.pinned (OpenSpec.ofChange fnExactSameMapWrong)

/-- 'laws.FnExactWriteOf': WHATEVER THE INPUT: true; the input reads as it did. -/
def fnExactWriteOfSpec : ChangeSpec := { name := "fnExactWriteOf", fn := fun _ => fun
  | [d1, d2] => { results := [.lit (.bool true)], args := [d1, d2] }
  | _ => none }
def fnExactWriteOfRow : OpenClaim := { program := "ytdjhjgcdddegkaa", sum := "1d21667b3c4f6258afa14bcd7b01b1d8f2e1ce46a5e891702fed3eb8cebdc04a", func := "loop.example/g01538/laws.FnExactWriteOf", spec := "fnExactWriteOf", unfollowed := true, recurses := true, apart := false }
def FnExactWriteOfSaid : Prop := fnExactWriteOfRow.holds Try.pinned (OpenSpec.ofChange fnExactWriteOfSpec)

/-- ITS FALSE NEIGHBOUR: 'it returns false'. Refute it at one input. -/
def fnExactWriteOfWrong : ChangeSpec := { name := "fnExactWriteOf", fn := fun _ => fun
  | [d1, d2] => { results := [.lit (.bool false)], args := [d1, d2] }
  | _ => none }
def FnExactWriteOfWrongFalsely : Prop := fnExactWriteOfRow.holds Try.pinned (OpenSpec.ofChange fnExactWriteOfWrong)

/-- 'laws.FnExactSeenPut': WHATEVER THE INPUT: true; the input reads as it did. -/
def fnExactSeenPutSpec : ChangeSpec := { name := "fnExactSeenPut", fn := fun _ => fun
  | [d1, d2, d3] => { results := [.lit (.bool true)], args := [d1, d2, d3] }
  | _ => none }
def fnExactSeenPutRow : OpenClaim := { program := "ytdjhjgcdddegkaa", sum := "1d21667b3c4f6258afa14bcd7b01b1d8f2e1ce46a5e891702fed3eb8cebdc04a", func := "loop.example/g01538/laws.FnExactSeenPut", spec := "fnExactSeenPut", unfollowed := true, recurses := true, apart := false }
def FnExactSeenPutSaid : Prop := fnExactSeenPutRow.holds Try.pinned (OpenSpec.ofChange fnExactSeenPutSpec)

/-- ITS FALSE NEIGHBOUR: 'it returns false'. Refute it at one input. -/
def fnExactSeenPutWrong : ChangeSpec := { name := "fnExactSeenPut", fn := fun _ => fun
  | [d1, d2, d3] => { results := [.lit (.bool false)], args := [d1, d2, d3] }
  | _ => none }
def FnExactSeenPutWrongFalsely : Prop := fnExactSeenPutRow.holds Try.pinned (OpenSpec.ofChange fnExactSeenPutWrong)

/-- 'laws.FnExactMapDel': WHATEVER THE INPUT: true; the input reads as it did. -/
def fnExactMapDelSpec : ChangeSpec := { name := "fnExactMapDel", fn := fun _ => fun
  | [d1, d2] => { results := [.lit (.bool true)], args := [d1, d2] }
  | _ => none }
def fnExactMapDelRow : OpenClaim := { program := "ytdjhjgcdddegkaa", sum := "1d21667b3c4f6258afa14bcd7b01b1d8f2e1ce46a5e891702fed3eb8cebdc04a", func := "loop.example/g01538/laws.FnExactMapDel", spec := "fnExactMapDel", unfollowed := true, recurses := true, apart := false }
def FnExactMapDelSaid : Prop := fnExactMapDelRow.holds Try.pinned (OpenSpec.ofChange fnExactMapDelSpec)

/-- ITS FALSE NEIGHBOUR: 'it returns false'. Refute it at one input. -/
def fnExactMapDelWrong : ChangeSpec := { name := "fnExactMapDel", fn := fun _ => fun
  | [d1, d2] => { results := [.lit (.bool false)], args := [d1, d2] }
  | _ => none }
def FnExactMapDelWrongFalsely : Prop := fnExactMapDelRow.holds Try.pinned (OpenSpec.ofChange fnExactMapDelWrong)

/- THE SECOND FORM. 'bulk': how many values and letters a reading holds, each counted each time it is reached (what is shared counts as often as it is met; a slice's spare places count too). A statement '..UptoSaid' is the law's where the arguments, and the package variables that the reading takes, are together of bulk at most 1048576: NARROWER than '..Said'. Prove '..Said' where nothing that the law and all that it calls make is longer than what came in: it says more and counts as full. Else prove '..UptoSaid'. A law counts once. -/
mutual
def uptoBulk {H : Type} : DataW H → Nat
  | .lit (.string bytes) => bytes.length + 1
  | .lit _ => 1
  | .nil => 1
  | .ptr d => uptoBulk d + 1
  | .slice elems spare => uptoBulkAll elems + uptoBulkAll spare + 1
  | .agg parts => uptoBulkAll parts + 1
  | .iface _ d => uptoBulk d + 1
  | .map entries => uptoBulkEntries entries + 1
  | .held _ => 1
def uptoBulkAll {H : Type} : List (DataW H) → Nat
  | [] => 0
  | d :: r => uptoBulk d + uptoBulkAll r
def uptoBulkEntries {H : Type} : List (Lit × DataW H) → Nat
  | [] => 0
  | x :: r => uptoBulkEntry x + uptoBulkEntries r
def uptoBulkEntry {H : Type} : Lit × DataW H → Nat
  | (.string bytes, d) => bytes.length + uptoBulk d + 1
  | (_, d) => uptoBulk d + 1
 end
def uptoSmall : (H : Type) → List (DataW H) → Bool := fun _ ds => decide (uptoBulkAll ds ≤ 1048576)
def OpenSpec.upto (s : _root_.Go.ChangeSpec) : _root_.Go.OpenSpec := { _root_.Go.OpenSpec.ofChange s with cond := some uptoSmall }

/-- 'laws.FnExactBktOf', WHERE WHAT IT READS IS OF BULK AT MOST 1048576: true; the input reads as it did. -/
def fnExactBktOfUptoRow : OpenClaim := { program := "ytdjhjgcdddegkaa", sum := "1d21667b3c4f6258afa14bcd7b01b1d8f2e1ce46a5e891702fed3eb8cebdc04a", func := "loop.example/g01538/laws.FnExactBktOf", spec := "fnExactBktOf", apart := false, narrowed := true }
def FnExactBktOfUptoSaid : Prop := fnExactBktOfUptoRow.holds Try.pinned (OpenSpec.upto fnExactBktOfSpec)

/-- 'laws.FnExactStepWord', WHERE WHAT IT READS IS OF BULK AT MOST 1048576: true; the input reads as it did. -/
def fnExactStepWordUptoRow : OpenClaim := { program := "ytdjhjgcdddegkaa", sum := "1d21667b3c4f6258afa14bcd7b01b1d8f2e1ce46a5e891702fed3eb8cebdc04a", func := "loop.example/g01538/laws.FnExactStepWord", spec := "fnExactStepWord", apart := false, narrowed := true }
def FnExactStepWordUptoSaid : Prop := fnExactStepWordUptoRow.holds Try.pinned (OpenSpec.upto fnExactStepWordSpec)

/-- 'laws.FnExactBktOk', WHERE WHAT IT READS IS OF BULK AT MOST 1048576: true; the input reads as it did. -/
def fnExactBktOkUptoRow : OpenClaim := { program := "ytdjhjgcdddegkaa", sum := "1d21667b3c4f6258afa14bcd7b01b1d8f2e1ce46a5e891702fed3eb8cebdc04a", func := "loop.example/g01538/laws.FnExactBktOk", spec := "fnExactBktOk", apart := false, narrowed := true }
def FnExactBktOkUptoSaid : Prop := fnExactBktOkUptoRow.holds Try.pinned (OpenSpec.upto fnExactBktOkSpec)

/-- 'laws.FnExactNodeOk', WHERE WHAT IT READS IS OF BULK AT MOST 1048576: true; the input reads as it did. -/
def fnExactNodeOkUptoRow : OpenClaim := { program := "ytdjhjgcdddegkaa", sum := "1d21667b3c4f6258afa14bcd7b01b1d8f2e1ce46a5e891702fed3eb8cebdc04a", func := "loop.example/g01538/laws.FnExactNodeOk", spec := "fnExactNodeOk", apart := false, narrowed := true }
def FnExactNodeOkUptoSaid : Prop := fnExactNodeOkUptoRow.holds Try.pinned (OpenSpec.upto fnExactNodeOkSpec)

/-- 'laws.FnExactCmdOk', WHERE WHAT IT READS IS OF BULK AT MOST 1048576: true; the input reads as it did. -/
def fnExactCmdOkUptoRow : OpenClaim := { program := "ytdjhjgcdddegkaa", sum := "1d21667b3c4f6258afa14bcd7b01b1d8f2e1ce46a5e891702fed3eb8cebdc04a", func := "loop.example/g01538/laws.FnExactCmdOk", spec := "fnExactCmdOk", apart := false, narrowed := true }
def FnExactCmdOkUptoSaid : Prop := fnExactCmdOkUptoRow.holds Try.pinned (OpenSpec.upto fnExactCmdOkSpec)

/-- 'laws.FnExactMapGet', WHERE WHAT IT READS IS OF BULK AT MOST 1048576: true; the input reads as it did. -/
def fnExactMapGetUptoRow : OpenClaim := { program := "ytdjhjgcdddegkaa", sum := "1d21667b3c4f6258afa14bcd7b01b1d8f2e1ce46a5e891702fed3eb8cebdc04a", func := "loop.example/g01538/laws.FnExactMapGet", spec := "fnExactMapGet", apart := false, narrowed := true }
def FnExactMapGetUptoSaid : Prop := fnExactMapGetUptoRow.holds Try.pinned (OpenSpec.upto fnExactMapGetSpec)

/-- 'laws.FnExactMapOk', WHERE WHAT IT READS IS OF BULK AT MOST 1048576: true; the input reads as it did. -/
def fnExactMapOkUptoRow : OpenClaim := { program := "ytdjhjgcdddegkaa", sum := "1d21667b3c4f6258afa14bcd7b01b1d8f2e1ce46a5e891702fed3eb8cebdc04a", func := "loop.example/g01538/laws.FnExactMapOk", spec := "fnExactMapOk", apart := false, narrowed := true }
def FnExactMapOkUptoSaid : Prop := fnExactMapOkUptoRow.holds Try.pinned (OpenSpec.upto fnExactMapOkSpec)

/-- 'laws.FnExactPuts', WHERE WHAT IT READS IS OF BULK AT MOST 1048576: true; the input reads as it did. -/
def fnExactPutsUptoRow : OpenClaim := { program := "ytdjhjgcdddegkaa", sum := "1d21667b3c4f6258afa14bcd7b01b1d8f2e1ce46a5e891702fed3eb8cebdc04a", func := "loop.example/g01538/laws.FnExactPuts", spec := "fnExactPuts", apart := false, narrowed := true }
def FnExactPutsUptoSaid : Prop := fnExactPutsUptoRow.holds Try.pinned (OpenSpec.upto fnExactPutsSpec)

/-- 'laws.FnExactSameMap', WHERE WHAT IT READS IS OF BULK AT MOST 1048576: true; the input reads as it did. -/
def fnExactSameMapUptoRow : OpenClaim := { program := "ytdjhjgcdddegkaa", sum := "1d21667b3c4f6258afa14bcd7b01b1d8f2e1ce46a5e891702fed3eb8cebdc04a", func := "loop.example/g01538/laws.FnExactSameMap", spec := "fnExactSameMap", apart := false, narrowed := true }
def FnExactSameMapUptoSaid : Prop := fnExactSameMapUptoRow.holds Try.pinned (OpenSpec.upto fnExactSameMapSpec)

/-- 'laws.FnExactWriteOf', WHERE WHAT IT READS IS OF BULK AT MOST 1048576: true; the input reads as it did. -/
def fnExactWriteOfUptoRow : OpenClaim := { program := "ytdjhjgcdddegkaa", sum := "1d21667b3c4f6258afa14bcd7b01b1d8f2e1ce46a5e891702fed3eb8cebdc04a", func := "loop.example/g01538/laws.FnExactWriteOf", spec := "fnExactWriteOf", unfollowed := true, recurses := true, apart := false, narrowed := true }
def FnExactWriteOfUptoSaid : Prop := fnExactWriteOfUptoRow.holds Try.pinned (OpenSpec.upto fnExactWriteOfSpec)

/-- 'laws.FnExactSeenPut', WHERE WHAT IT READS IS OF BULK AT MOST 1048576: true; the input reads as it did. -/
def fnExactSeenPutUptoRow : OpenClaim := { program := "ytdjhjgcdddegkaa", sum := "1d21667b3c4f6258afa14bcd7b01b1d8f2e1ce46a5e891702fed3eb8cebdc04a", func := "loop.example/g01538/laws.FnExactSeenPut", spec := "fnExactSeenPut", unfollowed := true, recurses := true, apart := false, narrowed := true }
def FnExactSeenPutUptoSaid : Prop := fnExactSeenPutUptoRow.holds Try.pinned (OpenSpec.upto fnExactSeenPutSpec)

/-- 'laws.FnExactMapDel', WHERE WHAT IT READS IS OF BULK AT MOST 1048576: true; the input reads as it did. -/
def fnExactMapDelUptoRow : OpenClaim := { program := "ytdjhjgcdddegkaa", sum := "1d21667b3c4f6258afa14bcd7b01b1d8f2e1ce46a5e891702fed3eb8cebdc04a", func := "loop.example/g01538/laws.FnExactMapDel", spec := "fnExactMapDel", unfollowed := true, recurses := true, apart := false, narrowed := true }
def FnExactMapDelUptoSaid : Prop := fnExactMapDelUptoRow.holds Try.pinned (OpenSpec.upto fnExactMapDelSpec)

end Rows
end Go.Proofs.Ytdjhjgcdddegkaa
