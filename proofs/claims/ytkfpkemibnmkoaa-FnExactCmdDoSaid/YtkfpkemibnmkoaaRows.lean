/-
  No cell of these rows narrows 'for every input' (looked for: loops, veiled, ifaces, maps, wideKeys, modest, calm, conditions, laid).
  DERIVED. THE GIVEN ROWS OF THIS SEAT. 12 by the template 'for every input the law returns true; each argument reads behind the call as it read before'; 0 by the template 'total and deterministic' (their statements: YtkfpkemibnmkoaaTotals.lean).
  GIVEN WITH THE SEED: the statements are not yours to turn. If you find one false, say at which input.
  Laid BY PROGRAM, IN A SANDBOX (cutbox-rows.mjs): the forced cells as the released guide's own fill.sh prints them over the translation 976b6d9703c57bc2… (all of the seat's roots in one cut). By AI agents, Wed Nov 11 2026. No macro, syntax, notation, axiom, sorry.
-/
import Derived.Test.YtkfpkemibnmkoaaChecked
import GoSem.Claim
import GoSem.ClaimJoined
import GoSem.ClaimMapViews
import Derived.JoinedTies
import Derived.KernelRfl
namespace Go.Proofs.Ytkfpkemibnmkoaa
/- THE CELL 'sum', in the pinned program and in every row, IS THE sha256 OF THE DUMP (.gsa) THAT YtkfpkemibnmkoaaProg.lean LOADS. Nothing in Lean hashes anything: it is a label: what it is worth is what the hold of that sum in a sandbox is worth. -/
noncomputable def Try.pinned : Pinned := { name := "ytkfpkemibnmkoaa", sum := "976b6d9703c57bc2f79bf737097a007737479f89e152cb156f477c800082e4c0", checked := Try.checked }
namespace Rows
def none {H : Type} : Left H := { results := [], args := [] }

/-- 'laws.FnExactSeenPut': WHATEVER THE INPUT: true; the input reads as it did. -/
def fnExactSeenPutSpec : ChangeSpec := { name := "fnExactSeenPut", fn := fun _ => fun
  | [d1, d2, d3] => { results := [.lit (.bool true)], args := [d1, d2, d3] }
  | _ => none }
def fnExactSeenPutRow : OpenClaim := { program := "ytkfpkemibnmkoaa", sum := "976b6d9703c57bc2f79bf737097a007737479f89e152cb156f477c800082e4c0", func := "loop.example/g01538/laws.FnExactSeenPut", spec := "fnExactSeenPut", unfollowed := true, recurses := true, apart := false }
def FnExactSeenPutSaid : Prop := fnExactSeenPutRow.holds Try.pinned (OpenSpec.ofChange fnExactSeenPutSpec)

/-- ITS FALSE NEIGHBOUR: 'it returns false'. Refute it at one input. -/
def fnExactSeenPutWrong : ChangeSpec := { name := "fnExactSeenPut", fn := fun _ => fun
  | [d1, d2, d3] => { results := [.lit (.bool false)], args := [d1, d2, d3] }
  | _ => none }
def FnExactSeenPutWrongFalsely : Prop := fnExactSeenPutRow.holds Try.pinned (OpenSpec.ofChange fnExactSeenPutWrong)

/-- 'laws.FnExactMapDel': WHATEVER THE INPUT: true; the input reads as it did. -/
def fnExactMapDelSpec : ChangeSpec := { name := "fnExactMapDel", fn := fun _ => fun
  | [d1, d2] => { results := [.lit (.bool true)], args := [d1, d2] }
  | _ => none }
def fnExactMapDelRow : OpenClaim := { program := "ytkfpkemibnmkoaa", sum := "976b6d9703c57bc2f79bf737097a007737479f89e152cb156f477c800082e4c0", func := "loop.example/g01538/laws.FnExactMapDel", spec := "fnExactMapDel", unfollowed := true, recurses := true, apart := false }
def FnExactMapDelSaid : Prop := fnExactMapDelRow.holds Try.pinned (OpenSpec.ofChange fnExactMapDelSpec)

/-- ITS FALSE NEIGHBOUR: 'it returns false'. Refute it at one input. -/
def fnExactMapDelWrong : ChangeSpec := { name := "fnExactMapDel", fn := fun _ => fun
  | [d1, d2] => { results := [.lit (.bool false)], args := [d1, d2] }
  | _ => none }
def FnExactMapDelWrongFalsely : Prop := fnExactMapDelRow.holds Try.pinned (OpenSpec.ofChange fnExactMapDelWrong)

/-- 'laws.FnExactMapPut': WHATEVER THE INPUT: true; the input reads as it did. -/
def fnExactMapPutSpec : ChangeSpec := { name := "fnExactMapPut", fn := fun _ => fun
  | [d1, d2, d3] => { results := [.lit (.bool true)], args := [d1, d2, d3] }
  | _ => none }
def fnExactMapPutRow : OpenClaim := { program := "ytkfpkemibnmkoaa", sum := "976b6d9703c57bc2f79bf737097a007737479f89e152cb156f477c800082e4c0", func := "loop.example/g01538/laws.FnExactMapPut", spec := "fnExactMapPut", inPlace := ["slices.overlaps[loop.example/g01538/impl.KV]"], unfollowed := true, recurses := true, apart := false }
def FnExactMapPutSaid : Prop := fnExactMapPutRow.holds Try.pinned (OpenSpec.ofChange fnExactMapPutSpec)

/-- ITS FALSE NEIGHBOUR: 'it returns false'. Refute it at one input. -/
def fnExactMapPutWrong : ChangeSpec := { name := "fnExactMapPut", fn := fun _ => fun
  | [d1, d2, d3] => { results := [.lit (.bool false)], args := [d1, d2, d3] }
  | _ => none }
def FnExactMapPutWrongFalsely : Prop := fnExactMapPutRow.holds Try.pinned (OpenSpec.ofChange fnExactMapPutWrong)

/-- 'laws.FnExactWritePut': WHATEVER THE INPUT: true; the input reads as it did. -/
def fnExactWritePutSpec : ChangeSpec := { name := "fnExactWritePut", fn := fun _ => fun
  | [d1, d2] => { results := [.lit (.bool true)], args := [d1, d2] }
  | _ => none }
def fnExactWritePutRow : OpenClaim := { program := "ytkfpkemibnmkoaa", sum := "976b6d9703c57bc2f79bf737097a007737479f89e152cb156f477c800082e4c0", func := "loop.example/g01538/laws.FnExactWritePut", spec := "fnExactWritePut", inPlace := ["slices.overlaps[loop.example/g01538/impl.Write]"], unfollowed := true, recurses := true, apart := false }
def FnExactWritePutSaid : Prop := fnExactWritePutRow.holds Try.pinned (OpenSpec.ofChange fnExactWritePutSpec)

/-- ITS FALSE NEIGHBOUR: 'it returns false'. Refute it at one input. -/
def fnExactWritePutWrong : ChangeSpec := { name := "fnExactWritePut", fn := fun _ => fun
  | [d1, d2] => { results := [.lit (.bool false)], args := [d1, d2] }
  | _ => none }
def FnExactWritePutWrongFalsely : Prop := fnExactWritePutRow.holds Try.pinned (OpenSpec.ofChange fnExactWritePutWrong)

/-- 'laws.FnExactApplyWrites': WHATEVER THE INPUT: true; the input reads as it did. -/
def fnExactApplyWritesSpec : ChangeSpec := { name := "fnExactApplyWrites", fn := fun _ => fun
  | [d1, d2] => { results := [.lit (.bool true)], args := [d1, d2] }
  | _ => none }
def fnExactApplyWritesRow : OpenClaim := { program := "ytkfpkemibnmkoaa", sum := "976b6d9703c57bc2f79bf737097a007737479f89e152cb156f477c800082e4c0", func := "loop.example/g01538/laws.FnExactApplyWrites", spec := "fnExactApplyWrites", inPlace := ["slices.overlaps[loop.example/g01538/impl.KV]"], unfollowed := true, recurses := true, apart := false }
def FnExactApplyWritesSaid : Prop := fnExactApplyWritesRow.holds Try.pinned (OpenSpec.ofChange fnExactApplyWritesSpec)

/-- ITS FALSE NEIGHBOUR: 'it returns false'. Refute it at one input. -/
def fnExactApplyWritesWrong : ChangeSpec := { name := "fnExactApplyWrites", fn := fun _ => fun
  | [d1, d2] => { results := [.lit (.bool false)], args := [d1, d2] }
  | _ => none }
def FnExactApplyWritesWrongFalsely : Prop := fnExactApplyWritesRow.holds Try.pinned (OpenSpec.ofChange fnExactApplyWritesWrong)

/-- 'laws.FnExactCmdDo': WHATEVER THE INPUT: true; the input reads as it did. -/
def fnExactCmdDoSpec : ChangeSpec := { name := "fnExactCmdDo", fn := fun _ => fun
  | [d1, d2] => { results := [.lit (.bool true)], args := [d1, d2] }
  | _ => none }
def fnExactCmdDoRow : OpenClaim := { program := "ytkfpkemibnmkoaa", sum := "976b6d9703c57bc2f79bf737097a007737479f89e152cb156f477c800082e4c0", func := "loop.example/g01538/laws.FnExactCmdDo", spec := "fnExactCmdDo", inPlace := ["slices.overlaps[loop.example/g01538/impl.KV]"], unfollowed := true, recurses := true, apart := false }
def FnExactCmdDoSaid : Prop := fnExactCmdDoRow.holds Try.pinned (OpenSpec.ofChange fnExactCmdDoSpec)

/-- ITS FALSE NEIGHBOUR: 'it returns false'. Refute it at one input. -/
def fnExactCmdDoWrong : ChangeSpec := { name := "fnExactCmdDo", fn := fun _ => fun
  | [d1, d2] => { results := [.lit (.bool false)], args := [d1, d2] }
  | _ => none }
def FnExactCmdDoWrongFalsely : Prop := fnExactCmdDoRow.holds Try.pinned (OpenSpec.ofChange fnExactCmdDoWrong)

/-- 'laws.FnExactCmdsDo': WHATEVER THE INPUT: true; the input reads as it did. -/
def fnExactCmdsDoSpec : ChangeSpec := { name := "fnExactCmdsDo", fn := fun _ => fun
  | [d1, d2] => { results := [.lit (.bool true)], args := [d1, d2] }
  | _ => none }
def fnExactCmdsDoRow : OpenClaim := { program := "ytkfpkemibnmkoaa", sum := "976b6d9703c57bc2f79bf737097a007737479f89e152cb156f477c800082e4c0", func := "loop.example/g01538/laws.FnExactCmdsDo", spec := "fnExactCmdsDo", inPlace := ["slices.overlaps[loop.example/g01538/impl.KV]"], unfollowed := true, recurses := true, apart := false }
def FnExactCmdsDoSaid : Prop := fnExactCmdsDoRow.holds Try.pinned (OpenSpec.ofChange fnExactCmdsDoSpec)

/-- ITS FALSE NEIGHBOUR: 'it returns false'. Refute it at one input. -/
def fnExactCmdsDoWrong : ChangeSpec := { name := "fnExactCmdsDo", fn := fun _ => fun
  | [d1, d2] => { results := [.lit (.bool false)], args := [d1, d2] }
  | _ => none }
def FnExactCmdsDoWrongFalsely : Prop := fnExactCmdsDoRow.holds Try.pinned (OpenSpec.ofChange fnExactCmdsDoWrong)

/-- 'laws.FnExactBatchOk': WHATEVER THE INPUT: true; the input reads as it did. -/
def fnExactBatchOkSpec : ChangeSpec := { name := "fnExactBatchOk", fn := fun _ => fun
  | [d] => { results := [.lit (.bool true)], args := [d] }
  | _ => none }
def fnExactBatchOkRow : OpenClaim := { program := "ytkfpkemibnmkoaa", sum := "976b6d9703c57bc2f79bf737097a007737479f89e152cb156f477c800082e4c0", func := "loop.example/g01538/laws.FnExactBatchOk", spec := "fnExactBatchOk", unfollowed := true, recurses := true, apart := false }
def FnExactBatchOkSaid : Prop := fnExactBatchOkRow.holds Try.pinned (OpenSpec.ofChange fnExactBatchOkSpec)

/-- ITS FALSE NEIGHBOUR: 'it returns false'. Refute it at one input. -/
def fnExactBatchOkWrong : ChangeSpec := { name := "fnExactBatchOk", fn := fun _ => fun
  | [d] => { results := [.lit (.bool false)], args := [d] }
  | _ => none }
def FnExactBatchOkWrongFalsely : Prop := fnExactBatchOkRow.holds Try.pinned (OpenSpec.ofChange fnExactBatchOkWrong)

/-- 'laws.FnExactCodes': WHATEVER THE INPUT: true; the input reads as it did. -/
def fnExactCodesSpec : ChangeSpec := { name := "fnExactCodes", fn := fun _ => fun
  | [d1, d2] => { results := [.lit (.bool true)], args := [d1, d2] }
  | _ => none }
def fnExactCodesRow : OpenClaim := { program := "ytkfpkemibnmkoaa", sum := "976b6d9703c57bc2f79bf737097a007737479f89e152cb156f477c800082e4c0", func := "loop.example/g01538/laws.FnExactCodes", spec := "fnExactCodes", apart := false }
def FnExactCodesSaid : Prop := fnExactCodesRow.holds Try.pinned (OpenSpec.ofChange fnExactCodesSpec)

/-- ITS FALSE NEIGHBOUR: 'it returns false'. Refute it at one input. -/
def fnExactCodesWrong : ChangeSpec := { name := "fnExactCodes", fn := fun _ => fun
  | [d1, d2] => { results := [.lit (.bool false)], args := [d1, d2] }
  | _ => none }
def FnExactCodesWrongFalsely : Prop := fnExactCodesRow.holds Try.pinned (OpenSpec.ofChange fnExactCodesWrong)

/-- 'laws.FnExactPlaceOf': WHATEVER THE INPUT: true; the input reads as it did. -/
def fnExactPlaceOfSpec : ChangeSpec := { name := "fnExactPlaceOf", fn := fun _ => fun
  | [d1, d2, d3] => { results := [.lit (.bool true)], args := [d1, d2, d3] }
  | _ => none }
def fnExactPlaceOfRow : OpenClaim := { program := "ytkfpkemibnmkoaa", sum := "976b6d9703c57bc2f79bf737097a007737479f89e152cb156f477c800082e4c0", func := "loop.example/g01538/laws.FnExactPlaceOf", spec := "fnExactPlaceOf", unfollowed := true, recurses := true, apart := false }
def FnExactPlaceOfSaid : Prop := fnExactPlaceOfRow.holds Try.pinned (OpenSpec.ofChange fnExactPlaceOfSpec)

/-- ITS FALSE NEIGHBOUR: 'it returns false'. Refute it at one input. -/
def fnExactPlaceOfWrong : ChangeSpec := { name := "fnExactPlaceOf", fn := fun _ => fun
  | [d1, d2, d3] => { results := [.lit (.bool false)], args := [d1, d2, d3] }
  | _ => none }
def FnExactPlaceOfWrongFalsely : Prop := fnExactPlaceOfRow.holds Try.pinned (OpenSpec.ofChange fnExactPlaceOfWrong)

/-- 'laws.FnExactInTime': WHATEVER THE INPUT: true; the input reads as it did. -/
def fnExactInTimeSpec : ChangeSpec := { name := "fnExactInTime", fn := fun _ => fun
  | [d1, d2, d3] => { results := [.lit (.bool true)], args := [d1, d2, d3] }
  | _ => none }
def fnExactInTimeRow : OpenClaim := { program := "ytkfpkemibnmkoaa", sum := "976b6d9703c57bc2f79bf737097a007737479f89e152cb156f477c800082e4c0", func := "loop.example/g01538/laws.FnExactInTime", spec := "fnExactInTime", unfollowed := true, recurses := true, apart := false }
def FnExactInTimeSaid : Prop := fnExactInTimeRow.holds Try.pinned (OpenSpec.ofChange fnExactInTimeSpec)

/-- ITS FALSE NEIGHBOUR: 'it returns false'. Refute it at one input. -/
def fnExactInTimeWrong : ChangeSpec := { name := "fnExactInTime", fn := fun _ => fun
  | [d1, d2, d3] => { results := [.lit (.bool false)], args := [d1, d2, d3] }
  | _ => none }
def FnExactInTimeWrongFalsely : Prop := fnExactInTimeRow.holds Try.pinned (OpenSpec.ofChange fnExactInTimeWrong)

/-- 'laws.FnExactStrict': WHATEVER THE INPUT: true; the input reads as it did. -/
def fnExactStrictSpec : ChangeSpec := { name := "fnExactStrict", fn := fun _ => fun
  | [d] => { results := [.lit (.bool true)], args := [d] }
  | _ => none }
def fnExactStrictRow : OpenClaim := { program := "ytkfpkemibnmkoaa", sum := "976b6d9703c57bc2f79bf737097a007737479f89e152cb156f477c800082e4c0", func := "loop.example/g01538/laws.FnExactStrict", spec := "fnExactStrict", unfollowed := true, recurses := true, apart := false }
def FnExactStrictSaid : Prop := fnExactStrictRow.holds Try.pinned (OpenSpec.ofChange fnExactStrictSpec)

/-- ITS FALSE NEIGHBOUR: 'it returns false'. Refute it at one input. -/
def fnExactStrictWrong : ChangeSpec := { name := "fnExactStrict", fn := fun _ => fun
  | [d] => { results := [.lit (.bool false)], args := [d] }
  | _ => none }
def FnExactStrictWrongFalsely : Prop := fnExactStrictRow.holds Try.pinned (OpenSpec.ofChange fnExactStrictWrong)

/- THE SECOND FORM. 'bulk': how many values and letters a reading holds, each counted each time it is reached (what is shared counts as often as it is met; a slice's spare places count too). A statement '..UptoSaid' is the law's where the arguments, and the package variables that the reading takes, are together of bulk at most 1048576: NARROWER than '..Said'. Prove '..Said' where nothing that the law and all that it calls make is longer than what came in: it says more and counts as full. Else prove '..UptoSaid'. A law counts once. -/
mutual
def uptoBulk {H : Type} : DataW H → Nat
  | .lit (.string bytes) => bytes.length + 1
  | .lit _ => 1
  | .nil => 1
  | .ptr d => uptoBulk d + 1
  | .slice elems spare => uptoBulkAll elems + uptoBulkAll spare + 1
  | .agg parts => uptoBulkAll parts + 1
  | .iface _ d => uptoBulk d + 1
  | .map entries => uptoBulkEntries entries + 1
  | .held _ => 1
def uptoBulkAll {H : Type} : List (DataW H) → Nat
  | [] => 0
  | d :: r => uptoBulk d + uptoBulkAll r
def uptoBulkEntries {H : Type} : List (Lit × DataW H) → Nat
  | [] => 0
  | x :: r => uptoBulkEntry x + uptoBulkEntries r
def uptoBulkEntry {H : Type} : Lit × DataW H → Nat
  | (.string bytes, d) => bytes.length + uptoBulk d + 1
  | (_, d) => uptoBulk d + 1
 end
def uptoSmall : (H : Type) → List (DataW H) → Bool := fun _ ds => decide (uptoBulkAll ds ≤ 1048576)
def OpenSpec.upto (s : _root_.Go.ChangeSpec) : _root_.Go.OpenSpec := { _root_.Go.OpenSpec.ofChange s with cond := some uptoSmall }

/-- 'laws.FnExactSeenPut', WHERE WHAT IT READS IS OF BULK AT MOST 1048576: true; the input reads as it did. -/
def fnExactSeenPutUptoRow : OpenClaim := { program := "ytkfpkemibnmkoaa", sum := "976b6d9703c57bc2f79bf737097a007737479f89e152cb156f477c800082e4c0", func := "loop.example/g01538/laws.FnExactSeenPut", spec := "fnExactSeenPut", unfollowed := true, recurses := true, apart := false, narrowed := true }
def FnExactSeenPutUptoSaid : Prop := fnExactSeenPutUptoRow.holds Try.pinned (OpenSpec.upto fnExactSeenPutSpec)

/-- 'laws.FnExactMapDel', WHERE WHAT IT READS IS OF BULK AT MOST 1048576: true; the input reads as it did. -/
def fnExactMapDelUptoRow : OpenClaim := { program := "ytkfpkemibnmkoaa", sum := "976b6d9703c57bc2f79bf737097a007737479f89e152cb156f477c800082e4c0", func := "loop.example/g01538/laws.FnExactMapDel", spec := "fnExactMapDel", unfollowed := true, recurses := true, apart := false, narrowed := true }
def FnExactMapDelUptoSaid : Prop := fnExactMapDelUptoRow.holds Try.pinned (OpenSpec.upto fnExactMapDelSpec)

/-- 'laws.FnExactMapPut', WHERE WHAT IT READS IS OF BULK AT MOST 1048576: true; the input reads as it did. -/
def fnExactMapPutUptoRow : OpenClaim := { program := "ytkfpkemibnmkoaa", sum := "976b6d9703c57bc2f79bf737097a007737479f89e152cb156f477c800082e4c0", func := "loop.example/g01538/laws.FnExactMapPut", spec := "fnExactMapPut", inPlace := ["slices.overlaps[loop.example/g01538/impl.KV]"], unfollowed := true, recurses := true, apart := false, narrowed := true }
def FnExactMapPutUptoSaid : Prop := fnExactMapPutUptoRow.holds Try.pinned (OpenSpec.upto fnExactMapPutSpec)

/-- 'laws.FnExactWritePut', WHERE WHAT IT READS IS OF BULK AT MOST 1048576: true; the input reads as it did. -/
def fnExactWritePutUptoRow : OpenClaim := { program := "ytkfpkemibnmkoaa", sum := "976b6d9703c57bc2f79bf737097a007737479f89e152cb156f477c800082e4c0", func := "loop.example/g01538/laws.FnExactWritePut", spec := "fnExactWritePut", inPlace := ["slices.overlaps[loop.example/g01538/impl.Write]"], unfollowed := true, recurses := true, apart := false, narrowed := true }
def FnExactWritePutUptoSaid : Prop := fnExactWritePutUptoRow.holds Try.pinned (OpenSpec.upto fnExactWritePutSpec)

/-- 'laws.FnExactApplyWrites', WHERE WHAT IT READS IS OF BULK AT MOST 1048576: true; the input reads as it did. -/
def fnExactApplyWritesUptoRow : OpenClaim := { program := "ytkfpkemibnmkoaa", sum := "976b6d9703c57bc2f79bf737097a007737479f89e152cb156f477c800082e4c0", func := "loop.example/g01538/laws.FnExactApplyWrites", spec := "fnExactApplyWrites", inPlace := ["slices.overlaps[loop.example/g01538/impl.KV]"], unfollowed := true, recurses := true, apart := false, narrowed := true }
def FnExactApplyWritesUptoSaid : Prop := fnExactApplyWritesUptoRow.holds Try.pinned (OpenSpec.upto fnExactApplyWritesSpec)

/-- 'laws.FnExactCmdDo', WHERE WHAT IT READS IS OF BULK AT MOST 1048576: true; the input reads as it did. -/
def fnExactCmdDoUptoRow : OpenClaim := { program := "ytkfpkemibnmkoaa", sum := "976b6d9703c57bc2f79bf737097a007737479f89e152cb156f477c800082e4c0", func := "loop.example/g01538/laws.FnExactCmdDo", spec := "fnExactCmdDo", inPlace := ["slices.overlaps[loop.example/g01538/impl.KV]"], unfollowed := true, recurses := true, apart := false, narrowed := true }
def FnExactCmdDoUptoSaid : Prop := fnExactCmdDoUptoRow.holds Try.pinned (OpenSpec.upto fnExactCmdDoSpec)

/-- 'laws.FnExactCmdsDo', WHERE WHAT IT READS IS OF BULK AT MOST 1048576: true; the input reads as it did. -/
def fnExactCmdsDoUptoRow : OpenClaim := { program := "ytkfpkemibnmkoaa", sum := "976b6d9703c57bc2f79bf737097a007737479f89e152cb156f477c800082e4c0", func := "loop.example/g01538/laws.FnExactCmdsDo", spec := "fnExactCmdsDo", inPlace := ["slices.overlaps[loop.example/g01538/impl.KV]"], unfollowed := true, recurses := true, apart := false, narrowed := true }
def FnExactCmdsDoUptoSaid : Prop := fnExactCmdsDoUptoRow.holds Try.pinned (OpenSpec.upto fnExactCmdsDoSpec)

/-- 'laws.FnExactBatchOk', WHERE WHAT IT READS IS OF BULK AT MOST 1048576: true; the input reads as it did. -/
def fnExactBatchOkUptoRow : OpenClaim := { program := "ytkfpkemibnmkoaa", sum := "976b6d9703c57bc2f79bf737097a007737479f89e152cb156f477c800082e4c0", func := "loop.example/g01538/laws.FnExactBatchOk", spec := "fnExactBatchOk", unfollowed := true, recurses := true, apart := false, narrowed := true }
def FnExactBatchOkUptoSaid : Prop := fnExactBatchOkUptoRow.holds Try.pinned (OpenSpec.upto fnExactBatchOkSpec)

/-- 'laws.FnExactCodes', WHERE WHAT IT READS IS OF BULK AT MOST 1048576: true; the input reads as it did. -/
def fnExactCodesUptoRow : OpenClaim := { program := "ytkfpkemibnmkoaa", sum := "976b6d9703c57bc2f79bf737097a007737479f89e152cb156f477c800082e4c0", func := "loop.example/g01538/laws.FnExactCodes", spec := "fnExactCodes", apart := false, narrowed := true }
def FnExactCodesUptoSaid : Prop := fnExactCodesUptoRow.holds Try.pinned (OpenSpec.upto fnExactCodesSpec)

/-- 'laws.FnExactPlaceOf', WHERE WHAT IT READS IS OF BULK AT MOST 1048576: true; the input reads as it did. -/
def fnExactPlaceOfUptoRow : OpenClaim := { program := "ytkfpkemibnmkoaa", sum := "976b6d9703c57bc2f79bf737097a007737479f89e152cb156f477c800082e4c0", func := "loop.example/g01538/laws.FnExactPlaceOf", spec := "fnExactPlaceOf", unfollowed := true, recurses := true, apart := false, narrowed := true }
def FnExactPlaceOfUptoSaid : Prop := fnExactPlaceOfUptoRow.holds Try.pinned (OpenSpec.upto fnExactPlaceOfSpec)

/-- 'laws.FnExactInTime', WHERE WHAT IT READS IS OF BULK AT MOST 1048576: true; the input reads as it did. -/
def fnExactInTimeUptoRow : OpenClaim := { program := "ytkfpkemibnmkoaa", sum := "976b6d9703c57bc2f79bf737097a007737479f89e152cb156f477c800082e4c0", func := "loop.example/g01538/laws.FnExactInTime", spec := "fnExactInTime", unfollowed := true, recurses := true, apart := false, narrowed := true }
def FnExactInTimeUptoSaid : Prop := fnExactInTimeUptoRow.holds Try.pinned (OpenSpec.upto fnExactInTimeSpec)

/-- 'laws.FnExactStrict', WHERE WHAT IT READS IS OF BULK AT MOST 1048576: true; the input reads as it did. -/
def fnExactStrictUptoRow : OpenClaim := { program := "ytkfpkemibnmkoaa", sum := "976b6d9703c57bc2f79bf737097a007737479f89e152cb156f477c800082e4c0", func := "loop.example/g01538/laws.FnExactStrict", spec := "fnExactStrict", unfollowed := true, recurses := true, apart := false, narrowed := true }
def FnExactStrictUptoSaid : Prop := fnExactStrictUptoRow.holds Try.pinned (OpenSpec.upto fnExactStrictSpec)

end Rows
end Go.Proofs.Ytkfpkemibnmkoaa
