-- Joined by our own program (wip/tools/prune.py) out of the seat's texts, less what this claim doesn't name.
import Derived.Test.YtchekgnacodolaaDoorRows
import Derived.JoinedOf
import Derived.RowKit
import Derived.WalkKit
import Derived.ProofKit
section
namespace Go.Proofs.YtchekgnacodolaaDoor.X.Whole
open Go.ChangeShapes Go.WideShapes Go.ChangeAt Go.RowKit
theorem laidOut : laidOutB Tryd.prog = true := by kernel_rfl
theorem mapsRowed : mapsRowed Tryd.prog = true := by kernel_rfl
theorem stops : (Tryd.prog.stops == []) = true := by kernel_rfl
theorem stopKnobs : (Tryd.prog.stopKnobs == []) = true := by kernel_rfl
theorem plainKeys : (Rows.showLexesRow.plainKeys == Tryd.prog.plainKeys) = true := by kernel_rfl
theorem stopsHeard : Tryd.prog.stopsHeard = true := by kernel_rfl
theorem mayEnter : Tryd.prog.mayEnter = true := by kernel_rfl
theorem lifted : (Rows.showLexesRow.lifted == Tryd.prog.liftsFinal) = true := by kernel_rfl
theorem make : (Tryd.prog.make == some Rows.showLexesRow.make) = true := by kernel_rfl
end Go.Proofs.YtchekgnacodolaaDoor.X.Whole
end
