/- The tied card of the statement, proved. -/
import Derived.Test.YtfajckkbinbpiaaGreatDoorTopProof
import Derived.Test.YtfajckkbinbpiaaGreatDoorTopGoes
import Derived.Test.YtfajckkbinbpiaaGreatDoorCards
import Derived.Test.YtfajckkbinbpiaaGreatDoorTie
import Derived.SevenTiedAt
namespace Go.Proofs.YtfajckkbinbpiaaGreatDoor
open Go.RowKit
set_option linter.unusedVariables false

theorem standless : ([22, 2].all fun u => !Tryz.prog.wantsStandIn u) = true := by kernel_rfl
theorem card_named : Tryz.prog.funcNamed "heliograph/heliographtop.TopSteps" = some 4 := by kernel_rfl
theorem card_wf : Rows.topStepsRow.wfByText (OpenSpec.ofChange Rows.topStepsSpec) = true := by kernel_rfl
theorem card_main : Tryz.prog.mainIs = some (true, ("3c30daef711b08104f6978c3bd676498bdf0917ece89bd02bcad88d99f0ed7d8" : String).toList) := by kernel_rfl
theorem card_looks : true = Tryz.prog.looks [] := by kernel_rfl
theorem proved : Rows.TopStepsCardSaid :=
  Claim7.holds_tied_plain_at .later [] [.data, .data, .data, .data, .sentinel, .sentinel, .pinned] true (true, "3c30daef711b08104f6978c3bd676498bdf0917ece89bd02bcad88d99f0ed7d8") true
    over (fun _ h => by cases h) card_wf (fun _ h => by cases h) topSteps_row_tie rfl ⟨rfl, rfl⟩ card_main rfl
    (fun f fn hf hfn => by
      obtain rfl : f = 4 := Option.some.inj (card_named.symm.trans hf) |>.symm
      obtain rfl : fn = Tryz.f4 := (Option.some.inj (Tryz.func4.symm.trans hfn)).symm
      exact ⟨card_looks, fun j t ht => by
        rw [Tryz.params4] at ht
        have hm : t ∈ [22, 2] := by
          have := Array.mem_of_getElem? ht
          simp at this ⊢
          exact this
        exact (show Tryz.prog.wantsStandIn t = false by simpa using List.all_eq_true.1 standless t hm)⟩)
    card_goes
#print axioms proved
end Go.Proofs.YtfajckkbinbpiaaGreatDoor
