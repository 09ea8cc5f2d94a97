/- Whether the row goes by the program: a closed fact, by itself for its size. -/
import Derived.ProofKit
import Derived.SevenTiedAt
import Derived.Test.YtfajckkbinbpiaaGreatDoorTie
namespace Go.Proofs.YtfajckkbinbpiaaGreatDoor
set_option maxRecDepth 100000
set_option maxHeartbeats 32000000
set_option linter.unusedVariables false
set_option linter.unusedSimpArgs false
open Go.RowKit
theorem flat_goes : false = Rows.topFlatRow.goesBy Tryz.prog := by kernel_rfl
end Go.Proofs.YtfajckkbinbpiaaGreatDoor
