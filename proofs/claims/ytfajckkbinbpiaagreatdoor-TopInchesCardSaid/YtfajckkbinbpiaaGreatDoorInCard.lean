/- The tied card of the statement, proved. -/
import Derived.Test.YtfajckkbinbpiaaGreatDoorInProof
import Derived.Test.YtfajckkbinbpiaaGreatDoorInGoes
import Derived.Test.YtfajckkbinbpiaaGreatDoorCards
import Derived.Test.YtfajckkbinbpiaaGreatDoorTie
import Derived.SevenTiedAt
namespace Go.Proofs.YtfajckkbinbpiaaGreatDoor
open Go.RowKit
set_option linter.unusedVariables false
set_option linter.unusedSimpArgs false

theorem inches_standless : ([22].all fun u => !Tryz.prog.wantsStandIn u) = true := by kernel_rfl
theorem inches_named : Tryz.prog.funcNamed "heliograph/heliographtop.TopInches" = some 3 := by kernel_rfl
theorem inches_wf : Rows.topInchesRow.wfByText (OpenSpec.ofChange Rows.topInchesSpec) = true := by kernel_rfl
theorem inches_main : Tryz.prog.mainIs = some (true, ("3c30daef711b08104f6978c3bd676498bdf0917ece89bd02bcad88d99f0ed7d8" : String).toList) := by kernel_rfl
theorem inches_looks : true = Tryz.prog.looks [] := by kernel_rfl
theorem inches_proved : Rows.TopInchesCardSaid :=
  Claim7.holds_tied_plain_at .later [] [.data, .data, .data, .data, .sentinel, .sentinel, .pinned] true (true, "3c30daef711b08104f6978c3bd676498bdf0917ece89bd02bcad88d99f0ed7d8") true
    inches_over (fun _ h => by cases h) inches_wf (fun _ h => by cases h) topInches_row_tie rfl ⟨rfl, rfl⟩ inches_main rfl
    (fun f fn hf hfn => by
      obtain rfl : f = 3 := Option.some.inj (inches_named.symm.trans hf) |>.symm
      obtain rfl : fn = Tryz.f3 := (Option.some.inj (Tryz.func3.symm.trans hfn)).symm
      exact ⟨inches_looks, fun j t ht => by
        rw [Tryz.params3] at ht
        have hm : t ∈ [22] := by
          have := Array.mem_of_getElem? ht
          simp at this ⊢
          exact this
        exact (show Tryz.prog.wantsStandIn t = false by simpa using List.all_eq_true.1 inches_standless t hm)⟩)
    inches_goes
#print axioms inches_proved
end Go.Proofs.YtfajckkbinbpiaaGreatDoor
