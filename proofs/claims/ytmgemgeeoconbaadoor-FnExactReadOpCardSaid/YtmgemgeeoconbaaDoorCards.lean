/-
  DERIVED. GIVEN WITH THE SEED: THE CARDS: each row of YtmgemgeeoconbaaDoorRows.lean that lists a variable, with what it lists TIED to the program's text (the seventh form; the later family's looks); each row that meets fmt, with fmt's text TOLD by the authors' own Lean function (tested against real Go, not proved from fmt's source: count such statements apart). THE CARD IS WHAT COUNTS. Prove the row's statement (the work); the ties are given (YtmgemgeeoconbaaDoorTie.lean); close each card by the builder's one call (the guide's Derived/Test/ToyasCard.lean, 'card_holds'). Laid BY PROGRAM, IN A SANDBOX (cutbox-door.mjs). By AI agents, Wed Nov 11 2026. No macro, syntax, notation, axiom, sorry.
-/
import Derived.Test.YtmgemgeeoconbaaDoorRows
import GoSem.ClaimSeven
namespace Go.Proofs.YtmgemgeeoconbaaDoor
namespace Rows

/-- THE TIED CARD OF 'laws.FnExactShowCmd'. -/
def fnExactShowCmdCard : Claim7 := { stood := { row := fnExactShowCmdRow, standIns := [], harness := (true, "0d0865db12b8f5393674d66c1f0752417bf5fd0889710cf42c65f32ea9d913d2"), looks := true }, kinds := [], alts := [], laidByText := true, laidKinds := [.data, .data, .data, .widerDeep], laidTests := true, laidLooks := .later }
def FnExactShowCmdCardSaid : Prop := Claim7.holds Tryd.pinned (.plain (OpenSpec.ofChange fnExactShowCmdSpec)) fnExactShowCmdCard

/-- THE TIED CARD OF 'laws.FnExactShowOp'. -/
def fnExactShowOpCard : Claim7 := { stood := { row := fnExactShowOpRow, standIns := [], harness := (true, "0d0865db12b8f5393674d66c1f0752417bf5fd0889710cf42c65f32ea9d913d2"), looks := true }, kinds := [], alts := [], laidByText := true, laidKinds := [.data, .data, .data], laidTests := true, laidLooks := .later }
def FnExactShowOpCardSaid : Prop := Claim7.holds Tryd.pinned (.plain (OpenSpec.ofChange fnExactShowOpSpec)) fnExactShowOpCard

/-- THE TIED CARD OF 'laws.FnExactShowBatch'. -/
def fnExactShowBatchCard : Claim7 := { stood := { row := fnExactShowBatchRow, standIns := [], harness := (true, "0d0865db12b8f5393674d66c1f0752417bf5fd0889710cf42c65f32ea9d913d2"), looks := true }, kinds := [], alts := [], laidByText := true, laidKinds := [.data, .data, .data, .widerDeep], laidTests := true, laidLooks := .later }
def FnExactShowBatchCardSaid : Prop := Claim7.holds Tryd.pinned (.plain (OpenSpec.ofChange fnExactShowBatchSpec)) fnExactShowBatchCard

/-- THE TIED CARD OF 'laws.FnExactReadCmd'. -/
def fnExactReadCmdCard : Claim7 := { stood := { row := fnExactReadCmdRow, standIns := [], harness := (true, "0d0865db12b8f5393674d66c1f0752417bf5fd0889710cf42c65f32ea9d913d2"), looks := true }, kinds := [], alts := [], laidByText := true, laidKinds := [.data, .data, .data, .data, .sentinel, .sentinel, .widerDeep, .pinned], laidTests := true, laidLooks := .later }
def FnExactReadCmdCardSaid : Prop := Claim7.holds Tryd.pinned (.plain (OpenSpec.ofChange fnExactReadCmdSpec)) fnExactReadCmdCard

/-- THE TIED CARD OF 'laws.FnExactReadOp'. -/
def fnExactReadOpCard : Claim7 := { stood := { row := fnExactReadOpRow, standIns := [], harness := (true, "0d0865db12b8f5393674d66c1f0752417bf5fd0889710cf42c65f32ea9d913d2"), looks := true }, kinds := [], alts := [], laidByText := true, laidKinds := [.data, .data, .data, .data, .sentinel, .sentinel, .pinned], laidTests := true, laidLooks := .later }
def FnExactReadOpCardSaid : Prop := Claim7.holds Tryd.pinned (.plain (OpenSpec.ofChange fnExactReadOpSpec)) fnExactReadOpCard

/-- THE TIED CARD OF 'laws.FnExactReadBatch'. -/
def fnExactReadBatchCard : Claim7 := { stood := { row := fnExactReadBatchRow, standIns := [], harness := (true, "0d0865db12b8f5393674d66c1f0752417bf5fd0889710cf42c65f32ea9d913d2"), looks := true }, kinds := [], alts := [], laidByText := true, laidKinds := [.data, .data, .data, .data, .sentinel, .sentinel, .widerDeep, .pinned], laidTests := true, laidLooks := .later }
def FnExactReadBatchCardSaid : Prop := Claim7.holds Tryd.pinned (.plain (OpenSpec.ofChange fnExactReadBatchSpec)) fnExactReadBatchCard

/-- THE SECOND FORM's CARD OF 'laws.FnExactShowCmd'. -/
def fnExactShowCmdUptoCard : Claim7 := { stood := { row := fnExactShowCmdUptoRow, standIns := [], harness := (true, "0d0865db12b8f5393674d66c1f0752417bf5fd0889710cf42c65f32ea9d913d2"), looks := true }, kinds := [], alts := [], laidByText := true, laidKinds := [.data, .data, .data, .widerDeep], laidTests := true, laidLooks := .later }
def FnExactShowCmdUptoCardSaid : Prop := Claim7.holds Tryd.pinned (.plain (OpenSpec.upto fnExactShowCmdSpec)) fnExactShowCmdUptoCard

/-- THE SECOND FORM's CARD OF 'laws.FnExactShowOp'. -/
def fnExactShowOpUptoCard : Claim7 := { stood := { row := fnExactShowOpUptoRow, standIns := [], harness := (true, "0d0865db12b8f5393674d66c1f0752417bf5fd0889710cf42c65f32ea9d913d2"), looks := true }, kinds := [], alts := [], laidByText := true, laidKinds := [.data, .data, .data], laidTests := true, laidLooks := .later }
def FnExactShowOpUptoCardSaid : Prop := Claim7.holds Tryd.pinned (.plain (OpenSpec.upto fnExactShowOpSpec)) fnExactShowOpUptoCard

/-- THE SECOND FORM's CARD OF 'laws.FnExactShowBatch'. -/
def fnExactShowBatchUptoCard : Claim7 := { stood := { row := fnExactShowBatchUptoRow, standIns := [], harness := (true, "0d0865db12b8f5393674d66c1f0752417bf5fd0889710cf42c65f32ea9d913d2"), looks := true }, kinds := [], alts := [], laidByText := true, laidKinds := [.data, .data, .data, .widerDeep], laidTests := true, laidLooks := .later }
def FnExactShowBatchUptoCardSaid : Prop := Claim7.holds Tryd.pinned (.plain (OpenSpec.upto fnExactShowBatchSpec)) fnExactShowBatchUptoCard

/-- THE SECOND FORM's CARD OF 'laws.FnExactReadCmd'. -/
def fnExactReadCmdUptoCard : Claim7 := { stood := { row := fnExactReadCmdUptoRow, standIns := [], harness := (true, "0d0865db12b8f5393674d66c1f0752417bf5fd0889710cf42c65f32ea9d913d2"), looks := true }, kinds := [], alts := [], laidByText := true, laidKinds := [.data, .data, .data, .data, .sentinel, .sentinel, .widerDeep, .pinned], laidTests := true, laidLooks := .later }
def FnExactReadCmdUptoCardSaid : Prop := Claim7.holds Tryd.pinned (.plain (OpenSpec.upto fnExactReadCmdSpec)) fnExactReadCmdUptoCard

/-- THE SECOND FORM's CARD OF 'laws.FnExactReadOp'. -/
def fnExactReadOpUptoCard : Claim7 := { stood := { row := fnExactReadOpUptoRow, standIns := [], harness := (true, "0d0865db12b8f5393674d66c1f0752417bf5fd0889710cf42c65f32ea9d913d2"), looks := true }, kinds := [], alts := [], laidByText := true, laidKinds := [.data, .data, .data, .data, .sentinel, .sentinel, .pinned], laidTests := true, laidLooks := .later }
def FnExactReadOpUptoCardSaid : Prop := Claim7.holds Tryd.pinned (.plain (OpenSpec.upto fnExactReadOpSpec)) fnExactReadOpUptoCard

/-- THE SECOND FORM's CARD OF 'laws.FnExactReadBatch'. -/
def fnExactReadBatchUptoCard : Claim7 := { stood := { row := fnExactReadBatchUptoRow, standIns := [], harness := (true, "0d0865db12b8f5393674d66c1f0752417bf5fd0889710cf42c65f32ea9d913d2"), looks := true }, kinds := [], alts := [], laidByText := true, laidKinds := [.data, .data, .data, .data, .sentinel, .sentinel, .widerDeep, .pinned], laidTests := true, laidLooks := .later }
def FnExactReadBatchUptoCardSaid : Prop := Claim7.holds Tryd.pinned (.plain (OpenSpec.upto fnExactReadBatchSpec)) fnExactReadBatchUptoCard
end Rows
end Go.Proofs.YtmgemgeeoconbaaDoor
