/- What the program says of itself, whatever the row. -/
import Derived.Test.YtcanhdhlbghfiaaGreatRows
import Derived.ProofKit
namespace Go.Proofs.YtcanhdhlbghfiaaGreat.Whole
open Go Go.ChangeShapes Go.WideShapes Go.ChangeAt Go.RowKit
set_option maxHeartbeats 8000000
set_option maxRecDepth 100000
theorem laidOut : laidOutB Tryz.prog = true := by kernel_rfl
theorem rowed : mapsRowed Tryz.prog = true := by kernel_rfl
theorem stops : (Tryz.prog.stops == []) = true := by kernel_rfl
theorem knobs : (Tryz.prog.stopKnobs == []) = true := by kernel_rfl
theorem keys : Tryz.prog.plainKeys = true := by kernel_rfl
theorem heard : Tryz.prog.stopsHeard = true := by kernel_rfl
theorem enter : Tryz.prog.mayEnter = true := by kernel_rfl
theorem lifts : Tryz.prog.liftsFinal = false := by kernel_rfl
theorem make : Tryz.prog.make = some Go.Make.cut := by kernel_rfl
end Go.Proofs.YtcanhdhlbghfiaaGreat.Whole
