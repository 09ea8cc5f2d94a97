/- Whether the row goes by the program: a closed fact, by itself for its size. -/
import Derived.Test.YtfajckkbinbpiaaGreatDoorTie
import Derived.ProofKit
import Derived.SevenTiedAt
namespace Go.Proofs.YtfajckkbinbpiaaGreatDoor
open Go.RowKit
set_option linter.unusedVariables false
set_option linter.unusedSimpArgs false

theorem inches_goes : false = Rows.topInchesRow.goesBy Tryz.prog := by kernel_rfl
end Go.Proofs.YtfajckkbinbpiaaGreatDoor
