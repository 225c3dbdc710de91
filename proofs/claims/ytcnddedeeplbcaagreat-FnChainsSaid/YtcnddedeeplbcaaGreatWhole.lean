/- What the program says of itself, whatever the row. -/
import Derived.Test.YtcnddedeeplbcaaGreatRows
import Derived.ProofKit
namespace Go.Proofs.YtcnddedeeplbcaaGreat.Whole
open Go.Proofs.Tryz Go Go.ChangeShapes Go.WideShapes Go.ChangeAt Go.RowKit
set_option maxHeartbeats 8000000
set_option maxRecDepth 100000
theorem laidOut : laidOutB prog = true := by kernel_rfl
theorem rowed : mapsRowed prog = true := by kernel_rfl
theorem stops : (prog.stops == []) = true := by kernel_rfl
theorem knobs : (prog.stopKnobs == []) = true := by kernel_rfl
theorem keys : prog.plainKeys = true := by kernel_rfl
theorem heard : prog.stopsHeard = true := by kernel_rfl
theorem enter : prog.mayEnter = true := by kernel_rfl
theorem lifts : prog.liftsFinal = false := by kernel_rfl
theorem make : prog.make = some Go.Make.cut := by kernel_rfl
end Go.Proofs.YtcnddedeeplbcaaGreat.Whole
