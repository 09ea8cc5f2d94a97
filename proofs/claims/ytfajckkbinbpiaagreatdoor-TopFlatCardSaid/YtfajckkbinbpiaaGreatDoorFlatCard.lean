/- The tied card of the statement, proved. -/
import Derived.SevenTiedAt
import Derived.Test.YtfajckkbinbpiaaGreatDoorCards
import Derived.Test.YtfajckkbinbpiaaGreatDoorFlatGoes
import Derived.Test.YtfajckkbinbpiaaGreatDoorFlatProof
import Derived.Test.YtfajckkbinbpiaaGreatDoorTie
namespace Go.Proofs.YtfajckkbinbpiaaGreatDoor
set_option maxRecDepth 100000
set_option maxHeartbeats 32000000
set_option linter.unusedVariables false
set_option linter.unusedSimpArgs false
open Go.RowKit
theorem flat_standless : ([47, 27].all fun u => !Tryz.prog.wantsStandIn u) = true := by kernel_rfl
theorem flat_named : Tryz.prog.funcNamed "heliograph/heliographtop.TopFlat" = some 6 := by kernel_rfl
theorem flat_wf : Rows.topFlatRow.wfByText (OpenSpec.ofChange Rows.topFlatSpec) = true := by kernel_rfl
theorem flat_main : Tryz.prog.mainIs = some (true, ("3c30daef711b08104f6978c3bd676498bdf0917ece89bd02bcad88d99f0ed7d8" : String).toList) := by kernel_rfl
theorem flat_looks : true = Tryz.prog.looks [] := by kernel_rfl
theorem flat_proved : Rows.TopFlatCardSaid :=
  Claim7.holds_tied_plain_at .later [] [.data, .data, .data, .data, .sentinel, .sentinel, .pinned] true (true, "3c30daef711b08104f6978c3bd676498bdf0917ece89bd02bcad88d99f0ed7d8") true
    flat_over (fun _ h => by cases h) flat_wf (fun _ h => by cases h) topFlat_row_tie rfl ⟨rfl, rfl⟩ flat_main rfl
    (fun f fn hf hfn => by
      obtain rfl : f = 6 := Option.some.inj (flat_named.symm.trans hf) |>.symm
      obtain rfl : fn = Tryz.f6 := (Option.some.inj (Tryz.func6.symm.trans hfn)).symm
      exact ⟨flat_looks, fun j t ht => by
        rw [Tryz.params6] at ht
        have hm : t ∈ [47, 27] := by
          have := Array.mem_of_getElem? ht
          simp at this ⊢
          exact this
        exact (show Tryz.prog.wantsStandIn t = false by simpa using List.all_eq_true.1 flat_standless t hm)⟩)
    flat_goes
#print axioms flat_proved
end Go.Proofs.YtfajckkbinbpiaaGreatDoor
