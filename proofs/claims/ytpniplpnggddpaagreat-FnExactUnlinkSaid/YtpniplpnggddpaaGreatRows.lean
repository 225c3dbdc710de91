/-
  No cell of these rows narrows 'for every input' (looked for: loops, veiled, ifaces, maps, wideKeys, modest, calm, conditions, laid).
  DERIVED. THE GIVEN ROWS OF THIS SEAT. 4 by the template 'for every input the law returns true; each argument reads behind the call as it read before'; 0 by the template 'total and deterministic' (their statements: YtpniplpnggddpaaGreatTotals.lean).
  GIVEN WITH THE SEED: the statements are not yours to turn. If you find one false, say at which input.
  Laid BY PROGRAM, IN A SANDBOX (cutbox-rows.mjs): the forced cells as the released guide's own fill.sh prints them over the translation df48482a6e3c987a… (all of the seat's roots in one cut). By AI agents, Wed Nov 11 2026. No macro, syntax, notation, axiom, sorry.
-/
import Derived.Test.YtpniplpnggddpaaGreatChecked
import GoSem.Claim
import GoSem.ClaimJoined
import GoSem.ClaimMapViews
import Derived.JoinedTies
import Derived.KernelRfl
namespace Go.Proofs.YtpniplpnggddpaaGreat
/- THE CELL 'sum', in the pinned program and in every row, IS THE sha256 OF THE DUMP (.gsa) THAT YtpniplpnggddpaaGreatProg.lean LOADS. Nothing in Lean hashes anything: it is a label: what it is worth is what the hold of that sum in a sandbox is worth. -/
noncomputable def Tryz.pinned : Pinned := { name := "ytpniplpnggddpaagreat", sum := "df48482a6e3c987a6218d69c0f063e1da289606c56508a733db8008e21904dc4", checked := Tryz.checked }
namespace Rows
def none {H : Type} : Left H := { results := [], args := [] }

/-- 'laws.FnExactNextTo': WHATEVER THE INPUT: true; the input reads as it did. -/
def fnExactNextToSpec : ChangeSpec := { name := "fnExactNextTo", fn := fun _ => fun
  | [d1, d2, d3] => { results := [.lit (.bool true)], args := [d1, d2, d3] }
  | _ => none }
def fnExactNextToRow : OpenClaim := { program := "ytpniplpnggddpaagreat", sum := "df48482a6e3c987a6218d69c0f063e1da289606c56508a733db8008e21904dc4", func := "loop.example/g01538/laws.FnExactNextTo", spec := "fnExactNextTo", unfollowed := true, recurses := true, apart := false }
def FnExactNextToSaid : Prop := fnExactNextToRow.holds Tryz.pinned (OpenSpec.ofChange fnExactNextToSpec)

/-- ITS FALSE NEIGHBOUR: 'it returns false'. Refute it at one input. -/
def fnExactNextToWrong : ChangeSpec := { name := "fnExactNextTo", fn := fun _ => fun
  | [d1, d2, d3] => { results := [.lit (.bool false)], args := [d1, d2, d3] }
  | _ => none }
def FnExactNextToWrongFalsely : Prop := fnExactNextToRow.holds Tryz.pinned (OpenSpec.ofChange fnExactNextToWrong)

/-- 'laws.FnExactNodePut': WHATEVER THE INPUT: true; the input reads as it did. -/
def fnExactNodePutSpec : ChangeSpec := { name := "fnExactNodePut", fn := fun _ => fun
  | [d1, d2, d3] => { results := [.lit (.bool true)], args := [d1, d2, d3] }
  | _ => none }
def fnExactNodePutRow : OpenClaim := { program := "ytpniplpnggddpaagreat", sum := "df48482a6e3c987a6218d69c0f063e1da289606c56508a733db8008e21904dc4", func := "loop.example/g01538/laws.FnExactNodePut", spec := "fnExactNodePut", unfollowed := true, recurses := true, apart := false }
def FnExactNodePutSaid : Prop := fnExactNodePutRow.holds Tryz.pinned (OpenSpec.ofChange fnExactNodePutSpec)

/-- ITS FALSE NEIGHBOUR: 'it returns false'. Refute it at one input. -/
def fnExactNodePutWrong : ChangeSpec := { name := "fnExactNodePut", fn := fun _ => fun
  | [d1, d2, d3] => { results := [.lit (.bool false)], args := [d1, d2, d3] }
  | _ => none }
def FnExactNodePutWrongFalsely : Prop := fnExactNodePutRow.holds Tryz.pinned (OpenSpec.ofChange fnExactNodePutWrong)

/-- 'laws.FnExactLinkIn': WHATEVER THE INPUT: true; the input reads as it did. -/
def fnExactLinkInSpec : ChangeSpec := { name := "fnExactLinkIn", fn := fun _ => fun
  | [d1, d2, d3] => { results := [.lit (.bool true)], args := [d1, d2, d3] }
  | _ => none }
def fnExactLinkInRow : OpenClaim := { program := "ytpniplpnggddpaagreat", sum := "df48482a6e3c987a6218d69c0f063e1da289606c56508a733db8008e21904dc4", func := "loop.example/g01538/laws.FnExactLinkIn", spec := "fnExactLinkIn", unfollowed := true, recurses := true, apart := false }
def FnExactLinkInSaid : Prop := fnExactLinkInRow.holds Tryz.pinned (OpenSpec.ofChange fnExactLinkInSpec)

/-- ITS FALSE NEIGHBOUR: 'it returns false'. Refute it at one input. -/
def fnExactLinkInWrong : ChangeSpec := { name := "fnExactLinkIn", fn := fun _ => fun
  | [d1, d2, d3] => { results := [.lit (.bool false)], args := [d1, d2, d3] }
  | _ => none }
def FnExactLinkInWrongFalsely : Prop := fnExactLinkInRow.holds Tryz.pinned (OpenSpec.ofChange fnExactLinkInWrong)

/-- 'laws.FnExactUnlink': WHATEVER THE INPUT: true; the input reads as it did. -/
def fnExactUnlinkSpec : ChangeSpec := { name := "fnExactUnlink", fn := fun _ => fun
  | [d1, d2, d3] => { results := [.lit (.bool true)], args := [d1, d2, d3] }
  | _ => none }
def fnExactUnlinkRow : OpenClaim := { program := "ytpniplpnggddpaagreat", sum := "df48482a6e3c987a6218d69c0f063e1da289606c56508a733db8008e21904dc4", func := "loop.example/g01538/laws.FnExactUnlink", spec := "fnExactUnlink", unfollowed := true, recurses := true, apart := false }
def FnExactUnlinkSaid : Prop := fnExactUnlinkRow.holds Tryz.pinned (OpenSpec.ofChange fnExactUnlinkSpec)

/-- ITS FALSE NEIGHBOUR: 'it returns false'. Refute it at one input. -/
def fnExactUnlinkWrong : ChangeSpec := { name := "fnExactUnlink", fn := fun _ => fun
  | [d1, d2, d3] => { results := [.lit (.bool false)], args := [d1, d2, d3] }
  | _ => none }
def FnExactUnlinkWrongFalsely : Prop := fnExactUnlinkRow.holds Tryz.pinned (OpenSpec.ofChange fnExactUnlinkWrong)

/- THE SECOND FORM. 'bulk': how many values and letters a reading holds, each counted each time it is reached (what is shared counts as often as it is met; a slice's spare places count too). A statement '..UptoSaid' is the law's where the arguments, and the package variables that the reading takes, are together of bulk at most 1048576: NARROWER than '..Said'. Prove '..Said' where nothing that the law and all that it calls make is longer than what came in: it says more and counts as full. Else prove '..UptoSaid'. A law counts once. -/
mutual
def uptoBulk {H : Type} : DataW H → Nat
  | .lit (.string bytes) => bytes.length + 1
  | .lit _ => 1
  | .nil => 1
  | .ptr d => uptoBulk d + 1
  | .slice elems spare => uptoBulkAll elems + uptoBulkAll spare + 1
  | .agg parts => uptoBulkAll parts + 1
  | .iface _ d => uptoBulk d + 1
  | .map entries => uptoBulkEntries entries + 1
  | .held _ => 1
def uptoBulkAll {H : Type} : List (DataW H) → Nat
  | [] => 0
  | d :: r => uptoBulk d + uptoBulkAll r
def uptoBulkEntries {H : Type} : List (Lit × DataW H) → Nat
  | [] => 0
  | x :: r => uptoBulkEntry x + uptoBulkEntries r
def uptoBulkEntry {H : Type} : Lit × DataW H → Nat
  | (.string bytes, d) => bytes.length + uptoBulk d + 1
  | (_, d) => uptoBulk d + 1
 end
def uptoSmall : (H : Type) → List (DataW H) → Bool := fun _ ds => decide (uptoBulkAll ds ≤ 1048576)
def OpenSpec.upto (s : _root_.Go.ChangeSpec) : _root_.Go.OpenSpec := { _root_.Go.OpenSpec.ofChange s with cond := some uptoSmall }

/-- 'laws.FnExactNextTo', WHERE WHAT IT READS IS OF BULK AT MOST 1048576: true; the input reads as it did. -/
def fnExactNextToUptoRow : OpenClaim := { program := "ytpniplpnggddpaagreat", sum := "df48482a6e3c987a6218d69c0f063e1da289606c56508a733db8008e21904dc4", func := "loop.example/g01538/laws.FnExactNextTo", spec := "fnExactNextTo", unfollowed := true, recurses := true, apart := false, narrowed := true }
def FnExactNextToUptoSaid : Prop := fnExactNextToUptoRow.holds Tryz.pinned (OpenSpec.upto fnExactNextToSpec)

/-- 'laws.FnExactNodePut', WHERE WHAT IT READS IS OF BULK AT MOST 1048576: true; the input reads as it did. -/
def fnExactNodePutUptoRow : OpenClaim := { program := "ytpniplpnggddpaagreat", sum := "df48482a6e3c987a6218d69c0f063e1da289606c56508a733db8008e21904dc4", func := "loop.example/g01538/laws.FnExactNodePut", spec := "fnExactNodePut", unfollowed := true, recurses := true, apart := false, narrowed := true }
def FnExactNodePutUptoSaid : Prop := fnExactNodePutUptoRow.holds Tryz.pinned (OpenSpec.upto fnExactNodePutSpec)

/-- 'laws.FnExactLinkIn', WHERE WHAT IT READS IS OF BULK AT MOST 1048576: true; the input reads as it did. -/
def fnExactLinkInUptoRow : OpenClaim := { program := "ytpniplpnggddpaagreat", sum := "df48482a6e3c987a6218d69c0f063e1da289606c56508a733db8008e21904dc4", func := "loop.example/g01538/laws.FnExactLinkIn", spec := "fnExactLinkIn", unfollowed := true, recurses := true, apart := false, narrowed := true }
def FnExactLinkInUptoSaid : Prop := fnExactLinkInUptoRow.holds Tryz.pinned (OpenSpec.upto fnExactLinkInSpec)

/-- 'laws.FnExactUnlink', WHERE WHAT IT READS IS OF BULK AT MOST 1048576: true; the input reads as it did. -/
def fnExactUnlinkUptoRow : OpenClaim := { program := "ytpniplpnggddpaagreat", sum := "df48482a6e3c987a6218d69c0f063e1da289606c56508a733db8008e21904dc4", func := "loop.example/g01538/laws.FnExactUnlink", spec := "fnExactUnlink", unfollowed := true, recurses := true, apart := false, narrowed := true }
def FnExactUnlinkUptoSaid : Prop := fnExactUnlinkUptoRow.holds Tryz.pinned (OpenSpec.upto fnExactUnlinkSpec)

end Rows
end Go.Proofs.YtpniplpnggddpaaGreat
